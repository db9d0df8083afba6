/- Knots: List (keys, and their places and one), by its contract (every input). -/
import Derived.BigQuiet
import Derived.Test.YtdekplalhfpooaaHlq
import Derived.Test.YtdekplalhfpooaaKntF
set_option linter.unusedVariables false
set_option linter.unusedSimpArgs false
namespace Go.Proofs.Ytdekplalhfpooaa.Knt
open Go Go.RowKit Go.Proofs.YtdekplalhfpooaaW.PrintWords Go.Proofs.YtdekplalhfpooaaW.PrintLast Go.Proofs.YtdekplalhfpooaaW.PrintMore Base Odr Hlp Nod

theorem St_keep_new' {W W' : World} {row : Option Nat} (hg : W.grownBy W' row) {n g : Nat} {o : Obj} (hr : ∀ p, row = some p → p < n) (hn : n ≤ g) (ho : W.heap[g]? = some o) : W'.heap[g]? = some o := by
  rw [hg.block g (Array.getElem?_eq_some_iff.1 ho).1 (fun he => by have := hr g he.symm; omega)]; exact ho
/-- Places and one. -/
def places (n : Nat) : List Int := (List.range n).map fun i => ((i + 1 : Nat) : Int)
theorem places_succ (n : Nat) : places (n + 1) = places n ++ [((n + 1 : Nat) : Int)] := by unfold places; rw [List.range_succ, List.map_append]; rfl
theorem places_len (n : Nat) : (places n).length = n := by unfold places; rw [List.length_map, List.length_range]
theorem take_snoc {xs : List Int} {i : Nat} (h : i < xs.length) : xs.take (i + 1) = xs.take i ++ [xs.getD i 0] := by
  rw [List.take_add_one, List.getD_eq_getElem?_getD, List.getElem?_eq_getElem h]; rfl
theorem place_nums {j : Nat} (h : j < 17592186044417) : wrap64 ((j : Int) + 1) = (j : Int) + 1 ∧ IntKind.u64.wrap ((j : Int) + 1) = (j : Int) + 1 := ⟨by unfold wrap64; omega, by rw [IntKind.wrap_u64]; omega⟩
set_option maxRecDepth 100000 in
set_option maxHeartbeats 6400000 in
theorem list_at (xs : List Int) (A : Option Addr) (n c : Nat) (w : World) (HR : ReadsInt w .u64 A n xs) (hn : n * 8 ≤ 140737488355328) :
    Calls Try.prog 44 #[.slice A n c] w fun e w' => N1 w w' e false n n xs (places n) := by
  obtain ⟨w1, hw1, b1, f1, s1⟩ := made w #[.bool false, .slice none 0 0, .slice none 0 0] 24
  obtain ⟨w2, hw2, b2, f2, s2⟩ := made w1 #[.bool false, .slice none 0 0, .slice none 0 0] 24
  obtain ⟨w3, hw3⟩ : ∃ w3, w2.setRow w1.heap.size #[.bool false, .slice none 0 0, .slice none 0 0] = w3 := ⟨_, rfl⟩
  have R2 := Lib.hid f2
  have hsz : w3.heap.size = w2.heap.size := by rw [← hw3]; simp only [World.setRow, Array.size_modify]
  have ST3 := Lib.hid (show St w w3.heap.size w1.heap.size 24 25 #[.bool false, .slice none 0 0, .slice none 0 0] [(w.heap.size, .cells #[.bool false, .slice none 0 0, .slice none 0 0] 24)] (.slice none 0 0) (.slice none 0 0) 0 0 (xs.take 0) (places 0) w3 from by
    refine ⟨own_nil _ _ _ _, own_nil _ _ _ _, fun p hp => by simp [Value.ownBlock] at hp, ?_, ?_, ?_, by omega, Nat.le_refl _, by omega⟩
    · rw [← hw3]; exact setRow_heap _ _ _ _ _ _ f2
    · intro p hp
      obtain rfl := List.mem_singleton.1 hp
      refine ⟨?_, by show w.heap.size < _; omega, by show w.heap.size ≠ _; omega⟩
      show w3.heap[w.heap.size]? = _
      rw [← hw3, setRow_other _ _ _ _ (by omega)]; exact keep_row f1 b2
    · rw [← hw3]; exact below_setRow (below_then' b1 b2) (by omega) _)
  have X3 := Lib.hid HR
  have SZ := Lib.hid (show w.heap.size < w3.heap.size by omega)
  have HL := Lib.hid HR.1
  have HN := Lib.hid hn
  clear b1 f1 s1 b2 f2 s2 HR hn hsz
  go_enter Try.func44, Try.ntmps44
  go_wp2_with ((with_reducible refine wpList_store_row rfl 24 (.tmp 3) (.tmp 6) rfl w1.heap.size #[.bool false, .slice none 0 0, .slice none 0 0] ?_ ?_ 24 _ R2.out (size3 _ _ _) ?_ (one3 _ _ _ _ _ _ _) ?_); rfl; rfl; rfl; rw [hw3])
  clear hw1 hw2 hw3
  go_loopw [9] (fun iv wr => ∃ (j c1 c2 : Nat) (A1 A2 : Option Addr), j ≤ n ∧ iv = .int .i64 (j : Int) ∧ St w w3.heap.size w1.heap.size 24 25 #[.bool false, .slice A1 j c1, .slice A2 j c2] [(w.heap.size, .cells #[.bool false, .slice none 0 0, .slice none 0 0] 24)] (.slice A1 j c1) (.slice A2 j c2) j j (xs.take j) (places j) wr) (fun iv _ => n - (intOf iv).toNat)
  case atStart => exact ⟨0, 0, 0, none, none, by omega, rfl, ST3.out⟩
  case round =>
    obtain ⟨j, c1, c2, A1, A2, hj, rfl, hst⟩ := hrel
    have ST6 := Lib.hid hst
    have hn47 : n ≤ 17592186044416 := by have := HN.out; omega
    clear hst
    by_cases hlt : j < n
    · obtain ⟨ad, rfl, hc⟩ := cell_at (X3.out.below ST6.out.bel) j hlt
      obtain ⟨k, hk⟩ : ∃ k, xs.getD j 0 = k := ⟨_, rfl⟩
      rw [hk] at hc
      have HLT := Lib.hid hlt
      have HJ8 := Lib.hid (show (j + 1) * 8 ≤ 140737488355328 ∧ j + 1 ≤ 9223372036854775807 by omega)
      have HTK := Lib.hid (show xs.take j ++ [k] = xs.take (j + 1) by rw [← hk]; exact (take_snoc (by rw [HL.out]; exact hlt)).symm)
      have HPL := Lib.hid (show places j ++ [(j : Int) + 1] = places (j + 1) by rw [places_succ]; push_cast; rfl)
      obtain ⟨KS, hKS⟩ : ∃ KS, xs.take j = KS := ⟨_, rfl⟩
      obtain ⟨VS, hVS⟩ : ∃ VS, places j = VS := ⟨_, rfl⟩
      rw [hKS, hVS] at ST6
      rw [hKS] at HTK
      rw [hVS] at HPL
      have jb : j < 17592186044417 := by omega
      clear hk hKS hVS hj
      go_wp2_with fail
      have Sd := Lib.hid (St.drew ST6.out)
      have Sa := Lib.hid (St.alloc Sd.out (.cells #[.int .u64 k] 25))
      have Sab := Lib.hid (St.alloc Sa.out (.cells #[.int .u64 ((j : Int) + 1)] 25))
      have Sb := Lib.hid (St.alloc Sd.out (.cells #[.int .u64 ((j : Int) + 1)] 25))
      have Sba := Lib.hid (St.alloc Sb.out (.cells #[.int .u64 k] 25))
      have ca : (wr.drew.alloc (.cells #[.int .u64 k] 25)).cell? ⟨wr.heap.size, 0, none⟩ = some (.int .u64 k) := cell_row (heap_alloc_new wr.drew _) rfl
      have cab1 : ((wr.drew.alloc (.cells #[.int .u64 k] 25)).alloc (.cells #[.int .u64 ((j : Int) + 1)] 25)).cell? ⟨wr.heap.size, 0, none⟩ = some (.int .u64 k) := cell_row (alloc_row (heap_alloc_new wr.drew _) _) rfl
      have cab2 : ((wr.drew.alloc (.cells #[.int .u64 k] 25)).alloc (.cells #[.int .u64 ((j : Int) + 1)] 25)).heap[wr.heap.size + 1]? = some (.cells #[.int .u64 ((j : Int) + 1)] 25) := heap_alloc2_new wr.drew _ _
      have cba1 : ((wr.drew.alloc (.cells #[.int .u64 ((j : Int) + 1)] 25)).alloc (.cells #[.int .u64 k] 25)).heap[wr.heap.size]? = some (.cells #[.int .u64 ((j : Int) + 1)] 25) := alloc_row (heap_alloc_new wr.drew _) _
      have cba2 : ((wr.drew.alloc (.cells #[.int .u64 ((j : Int) + 1)] 25)).alloc (.cells #[.int .u64 k] 25)).cell? ⟨wr.heap.size + 1, 0, none⟩ = some (.int .u64 k) := cell_row (heap_alloc2_new wr.drew _ _) rfl
      obtain ⟨B1a, e1, x1, rx1, ox1, gx1, bx1⟩ := app_one (c := 1) Try.underlying22 info64 Sab.out.ok cab1 HJ8.out.1 HJ8.out.2 Sab.out.le
      obtain ⟨B2a, e2, x2, rx2, ox2, gx2, bx2⟩ := app_one (c := 1) Try.underlying22 info64 Sba.out.ok cba2 HJ8.out.1 HJ8.out.2 Sba.out.le
      obtain ⟨B3a, e3, x3, rx3, ox3, gx3, bx3⟩ := app_one (c := 1) Try.underlying22 info64 Sa.out.ok ca HJ8.out.1 HJ8.out.2 Sa.out.le
      have X1 := Lib.hid (St.app_k Sab.out ox1 gx1 bx1)
      have X2 := Lib.hid (St.app_k Sba.out ox2 gx2 bx2)
      have X3' := Lib.hid (St.app_k Sa.out ox3 gx3 bx3)
      have C1 := Lib.hid (show x1.cell? ⟨wr.heap.size + 1, 0, none⟩ = some (.int .u64 ((j : Int) + 1)) from cell_row (St_keep_new' gx1 (fun p hp => by have := own_lt Sd.out.ok p hp; exact (show p < wr.heap.size from this)) (Nat.le_succ _) cab2) rfl)
      have C2 := Lib.hid (show x2.cell? ⟨wr.heap.size, 0, none⟩ = some (.int .u64 ((j : Int) + 1)) from cell_row (St_keep_new' gx2 (fun p hp => by have := own_lt Sd.out.ok p hp; exact (show p < wr.heap.size from this)) (Nat.le_refl _) cba1) rfl)
      have X3b := Lib.hid (St.alloc X3'.out (.cells #[.int .u64 ((j : Int) + 1)] 25))
      have C3 := Lib.hid (show (x3.alloc (.cells #[.int .u64 ((j : Int) + 1)] 25)).cell? ⟨x3.heap.size, 0, none⟩ = some (.int .u64 ((j : Int) + 1)) from cell_row (heap_alloc_new x3 _) rfl)
      have RX1 := Lib.hid rx1
      have RX2 := Lib.hid rx2
      have RX3 := Lib.hid rx3
      clear ca cab1 cab2 cba1 cba2 rx1 ox1 gx1 bx1 rx2 ox2 gx2 bx2 rx3 ox3 gx3 bx3 hc
      obtain ⟨hv1, hv2⟩ := place_nums jb
      refine start_ (n := 16) (S := fun w' => w'.cell? ⟨w1.heap.size, 1, none⟩ = some (.slice A1 j c1) ∧ w'.cell? ⟨w1.heap.size, 2, none⟩ = some (.slice A2 j c2)) (ds := [13, 15]) #[false, false, false, false, false, false, false, false, false, false, false, false, false, false, false, false] (by kernel_rfl) rfl rfl ⟨cell_row Sd.out.node rfl, cell_row Sd.out.node rfl⟩ (fun hHeld => ?_)
      refine pure_ (i := 0) (N := some 14) (v := ?_) (a' := ?_) #[true, false, false, false, false, false, false, false, false, false, false, false, false, false, false, false] rfl rfl (by kernel_rfl) (fun _ _ _ h => h) (Or.inl ⟨by rfl, ?_⟩) ?_ ?_
      rotate_left
      · intro w'
        go_simp
        with_reducible rfl
      rotate_left
      · simp only [Act.put, List.setIfInBounds_toArray, List.set_cons_zero, List.set_cons_succ, i64_w, i32_w]
        rfl
      refine pure_ (i := 2) (N := some 16) (v := ?_) (a' := ?_) #[true, false, true, false, false, false, false, false, false, false, false, false, false, false, false, false] rfl rfl (by kernel_rfl) (fun _ _ _ h => h) (Or.inl ⟨by rfl, ?_⟩) ?_ ?_
      rotate_left
      · intro w'
        go_simp
        with_reducible rfl
      rotate_left
      · simp only [Act.put, List.setIfInBounds_toArray, List.set_cons_zero, List.set_cons_succ, i64_w, i32_w]
        rfl
      refine pure_ (i := 5) (N := some 19) (v := ?_) (a' := ?_) #[true, false, true, false, false, true, false, false, false, false, false, false, false, false, false, false] rfl rfl (by kernel_rfl) (fun _ _ _ h => h) (Or.inl ⟨by rfl, ?_⟩) ?_ ?_
      rotate_left
      · intro w'
        go_simp
        with_reducible rfl
      rotate_left
      · simp only [Act.put, List.setIfInBounds_toArray, List.set_cons_zero, List.set_cons_succ, i64_w, i32_w]
        rfl
      refine pure_ (i := 7) (N := some 21) (v := ?_) (a' := ?_) #[true, false, true, false, false, true, false, true, false, false, false, false, false, false, false, false] rfl rfl (by kernel_rfl) (fun _ _ _ h => h) (Or.inl ⟨by rfl, ?_⟩) ?_ ?_
      rotate_left
      · intro w'
        go_simp
        with_reducible rfl
      rotate_left
      · simp only [Act.put, List.setIfInBounds_toArray, List.set_cons_zero, List.set_cons_succ, i64_w, i32_w]
        rfl
      refine pure_ (i := 8) (N := some 22) (v := ?_) (a' := ?_) #[true, false, true, false, false, true, false, true, true, false, false, false, false, false, false, false] rfl rfl (by kernel_rfl) (fun _ _ _ h => h) (Or.inl ⟨by rfl, ?_⟩) ?_ ?_
      rotate_left
      · intro w'
        go_simp
        with_reducible rfl
      rotate_left
      · simp only [Act.put, List.setIfInBounds_toArray, List.set_cons_zero, List.set_cons_succ, i64_w, i32_w]
        rfl
      refine pure_ (i := 9) (N := some 23) (v := ?_) (a' := ?_) #[true, false, true, false, false, true, false, true, true, true, false, false, false, false, false, false] rfl rfl (by kernel_rfl) (fun _ _ _ h => h) (Or.inl ⟨by rfl, ?_⟩) ?_ ?_
      rotate_left
      · intro w'
        go_simp
        with_reducible rfl
      rotate_left
      · simp only [Act.put, List.setIfInBounds_toArray, List.set_cons_zero, List.set_cons_succ, i64_w, i32_w]
        rfl
      refine take_ (i := 1) (N := some 15) (v := ?_) (a' := ?_) #[true, true, true, false, false, true, false, true, true, true, false, false, false, false, false, false] rfl rfl (by kernel_rfl) (fun _ _ _ h => h) (Or.inl ⟨by rfl, ?_⟩) hHeld ?_ ?_
      rotate_left
      · rintro w' ⟨s0, s1⟩
        go_simp
        with_reducible rfl
      rotate_left
      · simp only [Act.put, List.setIfInBounds_toArray, List.set_cons_zero, List.set_cons_succ, i64_w, i32_w]
        rfl
      refine take_ (i := 6) (N := some 20) (v := ?_) (a' := ?_) #[true, true, true, false, false, true, true, true, true, true, false, false, false, false, false, false] rfl rfl (by kernel_rfl) (fun _ _ _ h => h) (Or.inl ⟨by rfl, ?_⟩) hHeld ?_ ?_
      rotate_left
      · rintro w' ⟨s0, s1⟩
        go_simp
        with_reducible rfl
      rotate_left
      · simp only [Act.put, List.setIfInBounds_toArray, List.set_cons_zero, List.set_cons_succ, i64_w, i32_w]
        rfl
      refine join_ (σ := Nat × Option Addr × Nat × Nat) 4 #[true, true, true, true, true, true, true, true, true, true, true, false, true, false, false, false] (fun s => [(17, .slice (some ⟨s.1, 0, none⟩) 1 1), (18, .slice s.2.1 (j + 1) s.2.2.1), (24, .slice (some ⟨s.2.2.2, 0, none⟩) 1 1), (26, .pointer (some ⟨w1.heap.size, 1, none⟩))]) (fun s w' => St w w3.heap.size w1.heap.size 24 25 #[.bool false, .slice A1 j c1, .slice A2 j c2] [(w.heap.size, .cells #[.bool false, .slice none 0 0, .slice none 0 0] 24)] (.slice s.2.1 (j + 1) s.2.2.1) (.slice A2 j c2) (j + 1) j (KS ++ [k]) VS w' ∧ w'.cell? ⟨s.2.2.2, 0, none⟩ = some (.int .u64 ((j : Int) + 1))) ?_ ?_
      rotate_left
      · intro hCont
        refine two_ (i := 3) (j := 10) (Ni := some 17) (Nj := some 24) #[true, true, true, true, false, true, true, true, true, true, false, false, false, false, false, false] #[true, true, true, false, false, true, true, true, true, true, true, false, false, false, false, false] rfl rfl rfl rfl (by kernel_rfl) (by decide) (by decide) (fun K hK => ?_) (fun K hK => ?_)
        · skip
          refine value_ (w1 := ?_) (v := ?_) (by rfl) rfl ?_ ?_
          rotate_left 2
          · go_simp
            constructor
            · rfl
            · rfl
          refine hK.out _ _ ⟨cell_row Sa.out.node rfl, cell_row Sa.out.node rfl⟩ (fun hHeld => ?_)
          clear hK K
          refine norm_ (a' := ?_) ?_ ?_
          rotate_left
          · show Act.put _ (some 17) _ = _
            simp only [Act.put, List.setIfInBounds_toArray, List.set_cons_zero, List.set_cons_succ, i64_w, i32_w]
            rfl
          refine two_ (i := 4) (j := 10) (Ni := some 18) (Nj := some 24) #[true, true, true, true, true, true, true, true, true, true, false, false, false, false, false, false] #[true, true, true, true, false, true, true, true, true, true, true, false, false, false, false, false] rfl rfl rfl rfl (by kernel_rfl) (by decide) (by decide) (fun K hK => ?_) (fun K hK => ?_)
          · skip
            refine value_ (w1 := x3) (v := .slice B3a (j + 1) e3) (by rfl) rfl (exec_app (.tmp 15) (.tmp 17) ?_ ?_ ?_ RX3.out) ?_
            · rfl
            · rfl
            · rfl
            refine hK.out _ _ ⟨cell_row X3'.out.node rfl, cell_row X3'.out.node rfl⟩ (fun hHeld => ?_)
            clear hK K
            refine norm_ (a' := ?_) ?_ ?_
            rotate_left
            · show Act.put _ (some 18) _ = _
              simp only [Act.put, List.setIfInBounds_toArray, List.set_cons_zero, List.set_cons_succ, i64_w, i32_w]
              rfl
            refine pure_ (i := 12) (N := some 26) (v := ?_) (a' := ?_) #[true, true, true, true, true, true, true, true, true, true, false, false, true, false, false, false] rfl rfl (by kernel_rfl) (fun _ _ _ h => h) (Or.inl ⟨by rfl, ?_⟩) ?_ ?_
            rotate_left
            · intro w'
              go_simp
              with_reducible rfl
            rotate_left
            · simp only [Act.put, List.setIfInBounds_toArray, List.set_cons_zero, List.set_cons_succ, i64_w, i32_w]
              rfl
            refine one_ (i := 10) (N := some 24) #[true, true, true, true, true, true, true, true, true, true, true, false, true, false, false, false] rfl rfl (by kernel_rfl) (by decide) (fun K hK => ?_)
            refine value_ (w1 := ?_) (v := ?_) (by rfl) rfl ?_ ?_
            rotate_left 2
            · go_simp
              constructor
              · rfl
              · rfl
            refine hK.out _ _ ⟨cell_row X3b.out.node rfl, cell_row X3b.out.node rfl⟩ (fun hHeld => ?_)
            clear hK K
            refine norm_ (a' := ?_) ?_ ?_
            rotate_left
            · show Act.put _ (some 24) _ = _
              simp only [Act.put, List.setIfInBounds_toArray, List.set_cons_zero, List.set_cons_succ, i64_w, i32_w]
              rfl
            exact norm_ (by simp only [putAll, Act.put, List.setIfInBounds_toArray, List.set_cons_zero, List.set_cons_succ]) (hCont (wr.heap.size, B3a, e3, x3.heap.size) _ ⟨X3b.out, C3.out⟩)
          · skip
            refine value_ (w1 := ?_) (v := ?_) (by rfl) rfl ?_ ?_
            rotate_left 2
            · go_simp
              constructor
              · rfl
              · rfl
            refine hK.out _ _ ⟨cell_row Sab.out.node rfl, cell_row Sab.out.node rfl⟩ (fun hHeld => ?_)
            clear hK K
            refine norm_ (a' := ?_) ?_ ?_
            rotate_left
            · show Act.put _ (some 24) _ = _
              simp only [Act.put, List.setIfInBounds_toArray, List.set_cons_zero, List.set_cons_succ, i64_w, i32_w]
              rfl
            refine one_ (i := 4) (N := some 18) #[true, true, true, true, true, true, true, true, true, true, true, false, false, false, false, false] rfl rfl (by kernel_rfl) (by decide) (fun K hK => ?_)
            refine value_ (w1 := x1) (v := .slice B1a (j + 1) e1) (by rfl) rfl (exec_app (.tmp 15) (.tmp 17) ?_ ?_ ?_ RX1.out) ?_
            · rfl
            · rfl
            · rfl
            refine hK.out _ _ ⟨cell_row X1.out.node rfl, cell_row X1.out.node rfl⟩ (fun hHeld => ?_)
            clear hK K
            refine norm_ (a' := ?_) ?_ ?_
            rotate_left
            · show Act.put _ (some 18) _ = _
              simp only [Act.put, List.setIfInBounds_toArray, List.set_cons_zero, List.set_cons_succ, i64_w, i32_w]
              rfl
            refine pure_ (i := 12) (N := some 26) (v := ?_) (a' := ?_) #[true, true, true, true, true, true, true, true, true, true, true, false, true, false, false, false] rfl rfl (by kernel_rfl) (fun _ _ _ h => h) (Or.inl ⟨by rfl, ?_⟩) ?_ ?_
            rotate_left
            · intro w'
              go_simp
              with_reducible rfl
            rotate_left
            · simp only [Act.put, List.setIfInBounds_toArray, List.set_cons_zero, List.set_cons_succ, i64_w, i32_w]
              rfl
            exact norm_ (by simp only [putAll, Act.put, List.setIfInBounds_toArray, List.set_cons_zero, List.set_cons_succ]) (hCont (wr.heap.size, B1a, e1, wr.heap.size + 1) _ ⟨X1.out, C1.out⟩)
        · skip
          refine value_ (w1 := ?_) (v := ?_) (by rfl) rfl ?_ ?_
          rotate_left 2
          · go_simp
            constructor
            · rfl
            · rfl
          refine hK.out _ _ ⟨cell_row Sb.out.node rfl, cell_row Sb.out.node rfl⟩ (fun hHeld => ?_)
          clear hK K
          refine norm_ (a' := ?_) ?_ ?_
          rotate_left
          · show Act.put _ (some 24) _ = _
            simp only [Act.put, List.setIfInBounds_toArray, List.set_cons_zero, List.set_cons_succ, i64_w, i32_w]
            rfl
          refine one_ (i := 3) (N := some 17) #[true, true, true, true, false, true, true, true, true, true, true, false, false, false, false, false] rfl rfl (by kernel_rfl) (by decide) (fun K hK => ?_)
          refine value_ (w1 := ?_) (v := ?_) (by rfl) rfl ?_ ?_
          rotate_left 2
          · go_simp
            constructor
            · rfl
            · rfl
          refine hK.out _ _ ⟨cell_row Sba.out.node rfl, cell_row Sba.out.node rfl⟩ (fun hHeld => ?_)
          clear hK K
          refine norm_ (a' := ?_) ?_ ?_
          rotate_left
          · show Act.put _ (some 17) _ = _
            simp only [Act.put, List.setIfInBounds_toArray, List.set_cons_zero, List.set_cons_succ, i64_w, i32_w]
            rfl
          refine one_ (i := 4) (N := some 18) #[true, true, true, true, true, true, true, true, true, true, true, false, false, false, false, false] rfl rfl (by kernel_rfl) (by decide) (fun K hK => ?_)
          refine value_ (w1 := x2) (v := .slice B2a (j + 1) e2) (by rfl) rfl (exec_app (.tmp 15) (.tmp 17) ?_ ?_ ?_ RX2.out) ?_
          · rfl
          · rfl
          · rfl
          refine hK.out _ _ ⟨cell_row X2.out.node rfl, cell_row X2.out.node rfl⟩ (fun hHeld => ?_)
          clear hK K
          refine norm_ (a' := ?_) ?_ ?_
          rotate_left
          · show Act.put _ (some 18) _ = _
            simp only [Act.put, List.setIfInBounds_toArray, List.set_cons_zero, List.set_cons_succ, i64_w, i32_w]
            rfl
          refine pure_ (i := 12) (N := some 26) (v := ?_) (a' := ?_) #[true, true, true, true, true, true, true, true, true, true, true, false, true, false, false, false] rfl rfl (by kernel_rfl) (fun _ _ _ h => h) (Or.inl ⟨by rfl, ?_⟩) ?_ ?_
          rotate_left
          · intro w'
            go_simp
            with_reducible rfl
          rotate_left
          · simp only [Act.put, List.setIfInBounds_toArray, List.set_cons_zero, List.set_cons_succ, i64_w, i32_w]
            rfl
          exact norm_ (by simp only [putAll, Act.put, List.setIfInBounds_toArray, List.set_cons_zero, List.set_cons_succ]) (hCont (wr.heap.size + 1, B2a, e2, wr.heap.size) _ ⟨X2.out, C2.out⟩)
      rintro ⟨g1, A4, c4, g2⟩ w7 ⟨hst7, hc7⟩
      have ST7 := Lib.hid hst7
      have hHeld : w7.cell? ⟨w1.heap.size, 1, none⟩ = some (.slice A1 j c1) ∧ w7.cell? ⟨w1.heap.size, 2, none⟩ = some (.slice A2 j c2) := ⟨cell_row hst7.node rfl, cell_row hst7.node rfl⟩
      clear hst7
      refine norm_ (a' := ?_) ?_ ?_
      rotate_left
      · simp only [putAll, Act.put, List.setIfInBounds_toArray, List.set_cons_zero, List.set_cons_succ]
        rfl
      refine one_ (i := 11) (N := some 25) #[true, true, true, true, true, true, true, true, true, true, true, true, true, false, false, false] rfl rfl (by kernel_rfl) (by decide) (fun K hK => ?_)
      obtain ⟨A5, c5, w8, hr8, ho8, hg8, hb8⟩ := app_one (c := 1) Try.underlying22 info64 ST7.out.ov hc7 HJ8.out.1 HJ8.out.2 ST7.out.le
      have ST8 := Lib.hid (St.app_v ST7.out ho8 hg8 hb8)
      have RX8 := Lib.hid hr8
      clear ho8 hg8 hb8 hr8
      refine value_ (w1 := w8) (v := .slice A5 (j + 1) c5) (by rfl) rfl (exec_app (.tmp 20) (.tmp 24) ?_ ?_ ?_ RX8.out) ?_
      · rfl
      · rfl
      · rfl
      refine hK.out _ _ ⟨cell_row ST8.out.node rfl, cell_row ST8.out.node rfl⟩ (fun hHeld => ?_)
      clear hK K
      refine norm_ (a' := ?_) ?_ ?_
      rotate_left
      · show Act.put _ (some 25) _ = _
        simp only [Act.put, List.setIfInBounds_toArray, List.set_cons_zero, List.set_cons_succ, i64_w, i32_w]
        rfl
      refine last_ (i := 13) (N := none) #[true, true, true, true, true, true, true, true, true, true, true, true, true, true, false, false] rfl rfl (by kernel_rfl) (by decide) (fun K hK => ?_)
      obtain ⟨w9, hw9⟩ : ∃ w9, w8.setCell ⟨w1.heap.size, 1, none⟩ (.slice A4 (j + 1) c4) = w9 := ⟨_, rfl⟩
      have ST9 := Lib.hid (St.put ST8.out 1 (.slice A4 (j + 1) c4) (nd' := #[.bool false, .slice A4 (j + 1) c4, .slice A2 j c2]) rfl)
      rw [hw9] at ST9
      have q8 : w8.cell? ⟨w1.heap.size, 1, none⟩ = some (.slice A1 j c1) := cell_row ST8.out.node rfl
      have z8 : w8.frozen? ⟨w1.heap.size, 1, none⟩ = false := blk_frozen ST8.out.node 1
      refine skip_ (w1 := ?_) (by rfl) rfl ?_ ?_
      rotate_left
      · go_simp
        rfl
      refine hK.out _ _ ?_
      clear hK K
      refine pure_ (i := 14) (N := some 27) (v := ?_) (a' := ?_) #[true, true, true, true, true, true, true, true, true, true, true, true, true, true, true, false] rfl rfl (by kernel_rfl) (fun _ _ _ h => h) (Or.inl ⟨by rfl, ?_⟩) ?_ ?_
      rotate_left
      · intro w'
        go_simp
        with_reducible rfl
      rotate_left
      · simp only [Act.put, List.setIfInBounds_toArray, List.set_cons_zero, List.set_cons_succ, i64_w, i32_w]
        rfl
      refine last_ (i := 15) (N := none) #[true, true, true, true, true, true, true, true, true, true, true, true, true, true, true, true] rfl rfl (by kernel_rfl) (by decide) (fun K hK => ?_)
      obtain ⟨w10, hw10⟩ : ∃ w10, w9.setCell ⟨w1.heap.size, 2, none⟩ (.slice A5 (j + 1) c5) = w10 := ⟨_, rfl⟩
      have ST10 := Lib.hid (St.put ST9.out 2 (.slice A5 (j + 1) c5) (nd' := #[.bool false, .slice A4 (j + 1) c4, .slice A5 (j + 1) c5]) rfl)
      rw [hw10] at ST10
      have q9 : w9.cell? ⟨w1.heap.size, 2, none⟩ = some (.slice A2 j c2) := cell_row ST9.out.node rfl
      have z9 : w9.frozen? ⟨w1.heap.size, 2, none⟩ = false := blk_frozen ST9.out.node 2
      refine skip_ (w1 := ?_) (by rfl) rfl ?_ ?_
      rotate_left
      · go_simp
        rfl
      refine hK.out _ _ ?_
      clear hK K
      refine done_ (by kernel_rfl) ?_
      clear q8 z8 q9 z9 hw9 hw10 hv1 hv2
      go_wp2_with fail
      go_roundw
      case rel => exact ⟨j + 1, c4, c5, A4, A5, HLT.out, by push_cast; rfl, by rw [← HTK.out, ← HPL.out]; exact ST10.out⟩
      case measure => simp [intOf]; have := HLT.out; omega
    · obtain rfl : j = n := by omega
      have hnode := ST6.out.node
      have hres := (ST6.out.rows _ (List.mem_singleton.2 rfl)).1
      have HNODE := Lib.hid hnode
      have HRES := Lib.hid (show wr.heap[w.heap.size]? = some (.cells #[.bool false, .slice none 0 0, .slice none 0 0] 24) from hres)
      clear hj hlt hnode hres
      go_wp2_with (first | ((with_reducible refine wpList_load_row rfl 24 (.tmp 3) rfl w1.heap.size ?_ 24 _ _ _ HNODE.out Try.underlying24 ?_ (size3 _ _ _) ?_); rfl; rfl) | ((with_reducible refine wpList_store_row rfl 24 (.tmp 2) (.tmp 29) rfl w.heap.size #[.bool false, .slice A1 j c1, .slice A2 j c2] ?_ ?_ 24 _ HRES.out (size3 _ _ _) ?_ (one3 _ _ _ _ _ _ _) ?_); rfl; rfl; rfl))
      have ho := ST6.out.ok
      have hv := ST6.out.ov
      rw [List.take_of_length_le (by rw [HL.out]; exact Nat.le_refl _)] at ho
      have hk1 := mine_take ho HL.out (Nat.le_refl j)
      have hv1 := mine_take hv (places_len j) (Nat.le_refl j)
      rw [List.take_of_length_le (by rw [HL.out]; exact Nat.le_refl _)] at hk1
      rw [List.take_of_length_le (by rw [places_len]; exact Nat.le_refl _)] at hv1
      have hfar : Far A1 j A2 j := by
        rintro _ _ a a' rfl rfl he
        exact ST6.out.sep a.block rfl (by rw [he]; rfl)
      have hbs : w.heap.size ≤ w3.heap.size := Nat.le_of_lt SZ.out
      exact ret_c 2 rfl w.heap.size #[.bool false, .slice A1 j c1, .slice A2 j c2] (0, 0) rfl (setRow_heap _ _ _ _ _ _ HRES.out) rfl rfl ⟨A1, c1, A2, c2, rfl, own2_weaken (own2_setRow ⟨hk1, hv1, hfar, own_cap ho, own_cap hv, own_nilc ho, own_nilc hv⟩ SZ.out _) hbs, below_setRow ST6.out.bel (Nat.le_refl _) _⟩
end Go.Proofs.Ytdekplalhfpooaa.Knt
