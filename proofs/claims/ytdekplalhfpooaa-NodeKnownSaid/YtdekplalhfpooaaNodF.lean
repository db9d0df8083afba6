/- What bytes say as a node: the program's Take (every input). -/
import Derived.Test.YtdekplalhfpooaaNodE
set_option linter.unusedVariables false
set_option linter.unusedSimpArgs false
namespace Go.Proofs.Ytdekplalhfpooaa.Nod
open Go Go.RowKit Go.Proofs.YtdekplalhfpooaaW.PrintWords Go.Proofs.YtdekplalhfpooaaW.PrintLast Go.Proofs.YtdekplalhfpooaaW.PrintMore Base Odr Hlp

theorem St_add {w W : World} {base gN g : Nat} {tN e : TypeId} {nd : Array Value} {R : List (Nat × Obj)} {vk vv : Value} {nk nv : Nat} {K V : List Int} {o : Obj} (h : St w base gN tN e nd R vk vv nk nv K V W) (ho : W.heap[g]? = some o) (hg : g < base) (hne : g ≠ gN) :
    St w base gN tN e nd ((g, o) :: R) vk vv nk nv K V W :=
  ⟨h.ok, h.ov, h.sep, h.node, fun p hp => by
    rcases List.mem_cons.1 hp with rfl | hp
    · exact ⟨ho, hg, hne⟩
    · exact h.rows p hp, h.bel, h.lt, h.le, h.hN⟩
theorem St_drop {w W : World} {base gN : Nat} {p : Nat × Obj} {tN e : TypeId} {nd : Array Value} {R : List (Nat × Obj)} {vk vv : Value} {nk nv : Nat} {K V : List Int} (h : St w base gN tN e nd (p :: R) vk vv nk nv K V W) : St w base gN tN e nd R vk vv nk nv K V W :=
  ⟨h.ok, h.ov, h.sep, h.node, fun q hq => h.rows q (List.mem_cons_of_mem _ hq), h.bel, h.lt, h.le, h.hN⟩
theorem St_keep_new {W W' : World} {row : Option Nat} (hg : W.grownBy W' row) {n g : Nat} {o : Obj} (hr : ∀ p, row = some p → p < n) (hn : n ≤ g) (ho : W.heap[g]? = some o) : W'.heap[g]? = some o := by
  rw [hg.block g (Array.getElem?_eq_some_iff.1 ho).1 (fun he => by have := hr g he.symm; omega)]; exact ho
set_option maxRecDepth 100000 in
set_option maxHeartbeats 6400000 in
theorem take_any (b : List Int) (A : Option Addr) (n c : Nat) (w : World) (HR : ReadsInt w .u8 A n b) (hw : ∀ x ∈ b, (Lit.int .u8 x).wf = true) (hc : n ≤ c) :
    Calls Try.prog 35 #[.slice A n c] w fun e w' => ∃ A1 c1 A2 c2, e = .returned (.tuple #[.agg #[.bool (takeN b).L, .slice A1 (takeN b).K.length c1, .slice A2 (takeN b).V.length c2], .int .i64 (takeN b).e]) ∧
      w'.ownsRow w.heap.size 25 1 (.slice A1 (takeN b).K.length c1) (takeN b).K.length (nums .u64 (takeN b).K) ∧ w'.ownsRow w.heap.size 25 1 (.slice A2 (takeN b).V.length c2) (takeN b).V.length (nums .u64 (takeN b).V) ∧
      (∀ p, (Value.slice A1 (takeN b).K.length c1).ownBlock = some p → (Value.slice A2 (takeN b).V.length c2).ownBlock ≠ some p) ∧ Below w.heap.size w w' := by
  have LB := Lib.hid HR.1
  have HM := Lib.hid HR.2.1
  obtain ⟨w1, hw1, b1, f1, s1⟩ := made w #[.bool false, .slice none 0 0, .slice none 0 0] 24
  have RES1 := Lib.hid f1
  have B1 := Lib.hid b1
  have R1 := Lib.hid (ReadsInt.below HR b1)
  have R0 := Lib.hid HR
  have HW := Lib.hid hw
  clear HR hw b1 f1
  go_enter Try.func35, Try.ntmps35
  by_cases h0 : n < 1
  · have d1 : decide ((n : Int) < 1) = true := decide_eq_true (by omega)
    have HT := Lib.hid (show takeN b = ntN 4 by unfold takeN; rw [if_pos (by have := LB.out; omega)])
    clear h0
    go_wp2_with ((with_reducible refine wpList_store_row rfl 24 (.tmp 2) (.tmp 16) rfl w.heap.size #[.bool false, .slice none 0 0, .slice none 0 0] ?_ ?_ 24 _ RES1.out (size3 _ _ _) ?_ (one3 _ _ _ _ _ _ _) ?_); rfl; rfl; rfl)
    refine ret_two rfl w.heap.size #[.bool false, .slice none 0 0, .slice none 0 0] (0, 0) rfl (setRow_heap _ _ _ _ _ _ RES1.out) rfl rfl (nt_post HT.out (below_setRow B1.out (Nat.le_refl _) _))
  · have d1 : decide ((n : Int) < 1) = false := decide_eq_false (by omega)
    have hi0 : (0 : Int) < (n : Int) := by omega
    obtain ⟨ad, rfl, hc0⟩ := cell_at R1.out 0 (by omega)
    obtain ⟨x0, hx0⟩ : ∃ x, x = b.getD 0 0 := ⟨_, rfl⟩
    rw [← hx0] at hc0
    have hc0' : w1.cell? ad = some (.int .u8 x0) := hc0
    have HX0 := Lib.hid hx0
    have H0 := Lib.hid h0
    clear hc0 hx0 h0
    by_cases h1 : 1 < x0
    · have d2 : decide (1 < x0) = true := decide_eq_true h1
      have HT := Lib.hid (show takeN b = ntN 5 by unfold takeN; rw [if_neg (by have := LB.out; have := H0.out; omega), if_pos (by rw [← HX0.out]; exact h1)])
      clear h1
      go_wp2_with ((with_reducible refine wpList_store_row rfl 24 (.tmp 2) (.tmp 21) rfl w.heap.size #[.bool false, .slice none 0 0, .slice none 0 0] ?_ ?_ 24 _ RES1.out (size3 _ _ _) ?_ (one3 _ _ _ _ _ _ _) ?_); rfl; rfl; rfl)
      refine ret_two rfl w.heap.size #[.bool false, .slice none 0 0, .slice none 0 0] (0, 0) rfl (setRow_heap _ _ _ _ _ _ RES1.out) rfl rfl (nt_post HT.out (below_setRow B1.out (Nat.le_refl _) _))
    · have d2 : decide (1 < x0) = false := decide_eq_false h1
      have H1 := Lib.hid h1
      clear h1
      by_cases h2 : n < 2
      · have d3 : decide ((n : Int) < 2) = true := decide_eq_true (by omega)
        have HT := Lib.hid (show takeN b = ntN 4 by unfold takeN; rw [if_neg (by have := LB.out; have := H0.out; omega), if_neg (by rw [← HX0.out]; exact H1.out), if_pos (by have := LB.out; omega)])
        clear h2
        go_wp2_with ((with_reducible refine wpList_store_row rfl 24 (.tmp 2) (.tmp 25) rfl w.heap.size #[.bool false, .slice none 0 0, .slice none 0 0] ?_ ?_ 24 _ RES1.out (size3 _ _ _) ?_ (one3 _ _ _ _ _ _ _) ?_); rfl; rfl; rfl)
        refine ret_two rfl w.heap.size #[.bool false, .slice none 0 0, .slice none 0 0] (0, 0) rfl (setRow_heap _ _ _ _ _ _ RES1.out) rfl rfl (nt_post HT.out (below_setRow B1.out (Nat.le_refl _) _))
      · have d3 : decide ((n : Int) < 2) = false := decide_eq_false (by omega)
        have hi1 : (1 : Int) < (n : Int) := by omega
        obtain ⟨ad', e1, hc1⟩ := cell_at R1.out 1 (by omega)
        cases e1
        obtain ⟨x1, hx1⟩ : ∃ x, x = b.getD 1 0 := ⟨_, rfl⟩
        rw [← hx1] at hc1
        have hc1' : w1.cell? ⟨ad.block, ad.off + 1, none⟩ = some (.int .u8 x1) := by simpa [Addr.add] using hc1
        have HX1 := Lib.hid hx1
        have H2 := Lib.hid h2
        clear hc1 hx1 h2
        by_cases h3 : x1 < 1
        · have d4 : decide (x1 < 1) = true := decide_eq_true h3
          have HT := Lib.hid (show takeN b = ntN 5 by unfold takeN; rw [if_neg (by have := LB.out; have := H0.out; omega), if_neg (by rw [← HX0.out]; exact H1.out), if_neg (by have := LB.out; have := H2.out; omega), if_pos (Or.inl (by rw [← HX1.out]; exact h3))])
          clear h3
          go_wp2_with ((with_reducible refine wpList_store_row rfl 24 (.tmp 2) (.tmp 36) rfl w.heap.size #[.bool false, .slice none 0 0, .slice none 0 0] ?_ ?_ 24 _ RES1.out (size3 _ _ _) ?_ (one3 _ _ _ _ _ _ _) ?_); rfl; rfl; rfl)
          refine ret_two rfl w.heap.size #[.bool false, .slice none 0 0, .slice none 0 0] (0, 0) rfl (setRow_heap _ _ _ _ _ _ RES1.out) rfl rfl (nt_post HT.out (below_setRow B1.out (Nat.le_refl _) _))
        · have d4 : decide (x1 < 1) = false := decide_eq_false h3
          by_cases h4 : 8 < x1
          · have d5 : decide (8 < x1) = true := decide_eq_true h4
            have HT := Lib.hid (show takeN b = ntN 5 by unfold takeN; rw [if_neg (by have := LB.out; have := H0.out; omega), if_neg (by rw [← HX0.out]; exact H1.out), if_neg (by have := LB.out; have := H2.out; omega), if_pos (Or.inr (by rw [← HX1.out]; exact h4))])
            clear h3 h4
            go_wp2_with ((with_reducible refine wpList_store_row rfl 24 (.tmp 2) (.tmp 36) rfl w.heap.size #[.bool false, .slice none 0 0, .slice none 0 0] ?_ ?_ 24 _ RES1.out (size3 _ _ _) ?_ (one3 _ _ _ _ _ _ _) ?_); rfl; rfl; rfl)
            refine ret_two rfl w.heap.size #[.bool false, .slice none 0 0, .slice none 0 0] (0, 0) rfl (setRow_heap _ _ _ _ _ _ RES1.out) rfl rfl (nt_post HT.out (below_setRow B1.out (Nat.le_refl _) _))
          · have d5 : decide (8 < x1) = false := decide_eq_false h4
            obtain ⟨cnt, rfl⟩ : ∃ k : Nat, x1 = (k : Int) := ⟨x1.toNat, by omega⟩
            have hn8 : (cnt : Int) ≤ 8 := by omega
            obtain ⟨L, hL⟩ : ∃ L, (x0 == 1) = L := ⟨_, rfl⟩
            obtain ⟨G, hG⟩ : ∃ G, goN cnt (b.drop 2) [] [] = G := ⟨_, rfl⟩
            have HT := Lib.hid (show takeN b = endN L G from take_end (by have := LB.out; have := H2.out; omega) HX0.out H1.out HX1.out (by omega) hL rfl hG)
            have HG := Lib.hid hG
            obtain ⟨w2, hw2, b2, f2, s2⟩ := made w1 #[.bool false, .slice none 0 0, .slice none 0 0] 24
            obtain ⟨w3, hw3⟩ : ∃ w3, w2.setRow w1.heap.size #[.bool L, .slice none 0 0, .slice none 0 0] = w3 := ⟨_, rfl⟩
            have f3 : w3.heap[w1.heap.size]? = some (.cells #[.bool L, .slice none 0 0, .slice none 0 0] 24) := by rw [← hw3]; exact setRow_heap _ _ _ _ _ _ f2
            have r3 : w3.heap[w.heap.size]? = some (.cells #[.bool false, .slice none 0 0, .slice none 0 0] 24) := by rw [← hw3, setRow_other _ _ _ _ (by omega)]; exact keep_row RES1.out b2
            have b3 : Below w.heap.size w w3 := by rw [← hw3]; exact below_setRow (below_then B1.out B1.out.size b2) (by omega) _
            have s3 : w3.heap.size = w2.heap.size := by rw [← hw3]; simp [World.setRow]
            have hcap : n - 2 ≤ c - 2 := by omega
            obtain ⟨i0, hi0', hs0⟩ := info8'
            obtain ⟨A2, hA2, hr2⟩ := print_cut (P := Try.prog) 41 5 .i64 Try.underlying41 hi0' hs0 (some ad) n c 2 (by omega)
            have hA2' : ∀ W : World, (Instr.slice 41 (.slice (some ad) n c) (some (.int .i64 2)) none none).run Try.prog W = .ok (.slice A2 (n - 2) (c - 2)) W := hA2
            have RR := Lib.hid (hr2 _ _ _ hc R0.out)
            obtain ⟨w4, hw4, b4, f4, s4⟩ := made w3 #[.slice A2 (n - 2) (c - 2)] 72
            have b34 : Below w.heap.size w w4 := below_then b3 b3.size b4
            have ST4 := Lib.hid (show St w w4.heap.size w1.heap.size 24 25 #[.bool L, .slice none 0 0, .slice none 0 0] [(w.heap.size, .cells #[.bool false, .slice none 0 0, .slice none 0 0] 24)] (.slice none 0 0) (.slice none 0 0) 0 0 [] [] w4 from
              ⟨own_nil _ _ _ _, own_nil _ _ _ _, fun p hp => by simp [Value.ownBlock] at hp, keep_row f3 b4, fun p hp => by
                obtain rfl := List.mem_singleton.1 hp
                exact ⟨keep_row r3 b4, by show w.heap.size < w4.heap.size; omega, by show w.heap.size ≠ w1.heap.size; omega⟩, b34, by omega, Nat.le_refl _, by omega⟩)
            have RD4 := Lib.hid f4
            have SZ := Lib.hid (show w1.heap.size = w.heap.size + 1 ∧ w3.heap.size = w.heap.size + 2 ∧ w4.heap.size = w.heap.size + 3 by omega)
            have HC := Lib.hid hcap
            have F2 := Lib.hid f2
            have h2c : (2 : Int) ≤ (n : Int) := by omega
            have q0 : w1.frozen? ad = false ∨ True := .inr trivial
            obtain ⟨ad', e1, hc4⟩ := cell_at (ReadsInt.below R0.out b34) 1 (by omega)
            cases e1
            rw [← HX1.out] at hc4
            have hc4' : w4.cell? ⟨ad.block, ad.off + 1, none⟩ = some (.int .u8 (cnt : Int)) := by simpa [Addr.add] using hc4
            clear hc4
            clear s1 hA2 hr2 hi0' hs0 i0 b2 f2 s2 f3 r3 b3 s3 b4 f4 s4 b34 hG h3 h4 hcap q0
            go_wp2_with (first | ((with_reducible refine wpList_store_row rfl 24 (.tmp 4) (.tmp 41) rfl w1.heap.size #[.bool L, .slice none 0 0, .slice none 0 0] ?_ ?_ 24 _ F2.out (size3 _ _ _) ?_ (one3 _ _ _ _ _ _ _) ?_); rfl; rfl; rfl; rw [hw3]) | fail)
            go_loopw [52] (fun i wr => ∃ (j m mc : Nat) (A0 A1 A2 : Option Addr) (c1 c2 : Nat) (r KS VS : List Int), j ≤ cnt ∧ i = .int .i64 (j : Int) ∧ ReadsInt w .u8 A0 m r ∧ (∀ x ∈ r, (Lit.int .u8 x).wf = true) ∧ m ≤ mc ∧
              wr.heap[w3.heap.size]? = some (.cells #[.slice A0 m mc] 72) ∧ St w w4.heap.size w1.heap.size 24 25 #[.bool L, .slice A1 j c1, .slice A2 j c2] [(w.heap.size, .cells #[.bool false, .slice none 0 0, .slice none 0 0] 24)] (.slice A1 j c1) (.slice A2 j c2) j j KS VS wr ∧ goN (cnt - j) r KS VS = G) (fun i _ => cnt - (intOf i).toNat)
            case atStart => exact ⟨0, n - 2, c - 2, A2, none, none, 0, 0, b.drop 2, [], [], by omega, rfl, RR.out, fun x hx => HW.out x (List.mem_of_mem_drop hx), HC.out, RD4.out, ST4.out, HG.out⟩
            case round =>
              obtain ⟨j, m, mc, A0, A1, A2, c1, c2, r, KS, VS, hj, rfl, hr, hrw, hmc, hrd, hst, hg⟩ := hrel
              have RR2 := Lib.hid hr
              have RW := Lib.hid hrw
              have MC := Lib.hid hmc
              have RD := Lib.hid hrd
              have ST := Lib.hid hst
              have HG2 := Lib.hid hg
              have BL := Lib.hid hst.bel
              have RS := Lib.hid (show wr.heap[w.heap.size]? = some (.cells #[.bool false, .slice none 0 0, .slice none 0 0] 24) from (hst.rows _ (List.mem_singleton.2 rfl)).1)
              have KL := Lib.hid (show KS.length = j by have := hst.ok.1; simpa [nums] using this)
              have VL := Lib.hid (show VS.length = j by have := hst.ov.1; simpa [nums] using this)
              have RL := Lib.hid hr.1
              have HRb := Lib.hid (ReadsInt.below hr hst.bel)
              have hcr : wr.cell? ⟨w3.heap.size, 0, none⟩ = some (.slice A0 m mc) := cell_row hrd rfl
              have hfr : wr.frozen? ⟨w3.heap.size, 0, none⟩ = false := blk_frozen hrd 0
              clear hr hrw hmc hrd hst hg hc0' hc1' hc4' HG ST4 RD4 RR hA2' hi0 hi1 d1 d2 d3 d4 d5 h2c
              by_cases hlt : j < cnt
              · have hjv : (j : Int) < (cnt : Int) := by omega
                have hjd : decide ((j : Int) < (cnt : Int)) = true := decide_eq_true hjv
                obtain ⟨q, hq⟩ : ∃ q, cnt - j = q + 1 := ⟨cnt - j - 1, by omega⟩
                have HQ := Lib.hid (show cnt - (j + 1) = q by omega)
                have HG3 := Lib.hid (show goN (q + 1) r KS VS = G by rw [← hq]; exact HG2.out)
                clear hq hj
                by_cases hm : m < 8
                · have HT2 := Lib.hid (show takeN b = ntN 4 by rw [HT.out, ← HG3.out]; unfold goN; rw [if_pos (by rw [RL.out]; exact hm)]; exact end_bad (by decide))
                  go_wp2_with fail
                  refine (number_short A0 m mc _ _ hm hcr).mono ?_; rintro e w5 ⟨rfl, rfl⟩
                  clear hcr hfr hm hlt
                  go_wp2_with ((with_reducible refine wpList_store_row rfl 24 (.tmp 2) (.tmp 62) rfl w.heap.size #[.bool false, .slice none 0 0, .slice none 0 0] ?_ ?_ 24 _ RS.out (size3 _ _ _) ?_ (one3 _ _ _ _ _ _ _) ?_); rfl; rfl; rfl)
                  refine ret_two rfl w.heap.size #[.bool false, .slice none 0 0, .slice none 0 0] (0, 0) rfl (setRow_heap _ _ _ _ _ _ RS.out) rfl rfl (nt_post HT2.out (below_setRow BL.out (Nat.le_refl _) _))
                · have HM8 := Lib.hid hm
                  go_wp2_with fail
                  refine (number_ok r A0 m mc _ w _ RR2.out RW.out MC.out (by omega) BL.out hcr hfr).mono ?_; rintro e w5 ⟨rfl, A3, hr3, hw5⟩
                  obtain ⟨k, hk⟩ : ∃ k, getN (r.take 8) = k := ⟨_, rfl⟩
                  rw [hk]
                  have ST5 := Lib.hid (show St w w4.heap.size w1.heap.size 24 25 #[.bool L, .slice A1 j c1, .slice A2 j c2] [(w.heap.size, .cells #[.bool false, .slice none 0 0, .slice none 0 0] 24)] (.slice A1 j c1) (.slice A2 j c2) j j KS VS w5 by
                    rw [hw5]; exact St_far ST.out (by have := SZ.out; omega) (by have := SZ.out; omega) (by have := SZ.out; omega) (fun q hq => by obtain rfl := List.mem_singleton.1 hq; show w.heap.size ≠ w3.heap.size; have := SZ.out; omega) _)
                  have RD5 := Lib.hid (show w5.heap[w3.heap.size]? = some (.cells #[.slice A3 (m - 8) (mc - 8)] 72) by rw [hw5]; exact blk_put RD.out 0 _ rfl)
                  have RR5 := Lib.hid hr3
                  have HK := Lib.hid hk
                  have BL5 := Lib.hid ST5.out.bel
                  have RS5 := Lib.hid (show w5.heap[w.heap.size]? = some (.cells #[.bool false, .slice none 0 0, .slice none 0 0] 24) from (ST5.out.rows _ (List.mem_singleton.2 rfl)).1)
                  have k1 : w5.cell? ⟨w1.heap.size, 1, none⟩ = some (.slice A1 j c1) := cell_row ST5.out.node rfl
                  clear hcr hfr hm hr3 hw5 hk
                  have HSTEP := Lib.hid (show goN (q + 1) r KS VS = if 0 < KS.length ∧ k ≤ KS.getD (KS.length - 1) 0 then badG 5 else stV (goN q) (r.drop 8) (KS ++ [k]) VS by
                    show (if r.length < 8 then badG 4 else if 0 < KS.length ∧ getN (r.take 8) ≤ KS.getD (KS.length - 1) 0 then badG 5 else stV (goN q) (r.drop 8) (KS ++ [getN (r.take 8)]) VS) = _
                    rw [if_neg (by have := RL.out; have := HM8.out; omega), HK.out])
                  rcases Nat.eq_zero_or_pos j with hj0 | hj0
                  · have hjz : decide (0 < (j : Int)) = false := decide_eq_false (by omega)
                    have hjn : decide (0 < j) = false := decide_eq_false (by omega)
                    have HST := Lib.hid (show goN (q + 1) r KS VS = stV (goN q) (r.drop 8) (KS ++ [k]) VS by rw [HSTEP.out, if_neg (fun h => by have := KL.out; omega)])
                    clear hj0
                    have hcr5 : w5.cell? ⟨w3.heap.size, 0, none⟩ = some (.slice A3 (m - 8) (mc - 8)) := cell_row RD5.out rfl
                    have hfr5 : w5.frozen? ⟨w3.heap.size, 0, none⟩ = false := blk_frozen RD5.out 0
                    by_cases hm2 : m - 8 < 8
                    · have HT2 := Lib.hid (show takeN b = ntN 4 by rw [HT.out, ← HG3.out, HST.out]; unfold stV; rw [if_pos (by rw [List.length_drop, RL.out]; exact hm2)]; exact end_bad (by decide))
                      go_wp2_with fail
                      refine (number_short A3 (m - 8) (mc - 8) _ _ hm2 hcr5).mono ?_; rintro e w6 ⟨rfl, rfl⟩
                      clear hcr5 hfr5 hm2 hlt
                      go_wp2_with ((with_reducible refine wpList_store_row rfl 24 (.tmp 2) (.tmp 84) rfl w.heap.size #[.bool false, .slice none 0 0, .slice none 0 0] ?_ ?_ 24 _ RS5.out (size3 _ _ _) ?_ (one3 _ _ _ _ _ _ _) ?_); rfl; rfl; rfl)
                      refine ret_two rfl w.heap.size #[.bool false, .slice none 0 0, .slice none 0 0] (0, 0) rfl (setRow_heap _ _ _ _ _ _ RS5.out) rfl rfl (nt_post HT2.out (below_setRow BL5.out (Nat.le_refl _) _))
                    · have HM16 := Lib.hid hm2
                      go_wp2_with fail
                      refine (number_ok (r.drop 8) A3 (m - 8) (mc - 8) _ w _ RR5.out (fun x hx => RW.out x (List.mem_of_mem_drop hx)) (by have := MC.out; omega) (by omega) BL5.out hcr5 hfr5).mono ?_; rintro e w6 ⟨rfl, A6, hr6, hw6⟩
                      obtain ⟨v, hv⟩ : ∃ v, getN ((r.drop 8).take 8) = v := ⟨_, rfl⟩
                      rw [hv]
                      have st6 : St w w4.heap.size w1.heap.size 24 25 #[.bool L, .slice A1 j c1, .slice A2 j c2] [(w.heap.size, .cells #[.bool false, .slice none 0 0, .slice none 0 0] 24)] (.slice A1 j c1) (.slice A2 j c2) j j KS VS w6 := by
                        rw [hw6]; exact St_far ST5.out (by have := SZ.out; omega) (by have := SZ.out; omega) (by have := SZ.out; omega) (fun q hq => by obtain rfl := List.mem_singleton.1 hq; show w.heap.size ≠ w3.heap.size; have := SZ.out; omega) _
                      have rd6 : w6.heap[w3.heap.size]? = some (.cells #[.slice A6 (m - 8 - 8) (mc - 8 - 8)] 72) := by rw [hw6]; exact blk_put RD5.out 0 _ rfl
                      have ST6 := Lib.hid (St_add st6 rd6 (by have := SZ.out; omega) (by have := SZ.out; omega))
                      have RR6 := Lib.hid hr6
                      have HV := Lib.hid hv
                      have BL6 := Lib.hid st6.bel
                      have RS6 := Lib.hid (show w6.heap[w.heap.size]? = some (.cells #[.bool false, .slice none 0 0, .slice none 0 0] 24) from (st6.rows _ (List.mem_singleton.2 rfl)).1)
                      clear hcr5 hfr5 hm2 hr6 hw6 hv k1 st6 rd6
                      have HST2 := Lib.hid (show goN (q + 1) r KS VS = if v = 0 then badG 5 else goN q ((r.drop 8).drop 8) (KS ++ [k]) (VS ++ [v]) by
                        rw [HST.out]
                        show (if (r.drop 8).length < 8 then badG 4 else if getN ((r.drop 8).take 8) = 0 then badG 5 else goN q ((r.drop 8).drop 8) (KS ++ [k]) (VS ++ [getN ((r.drop 8).take 8)])) = _
                        rw [if_neg (by have := RL.out; have := HM16.out; rw [List.length_drop]; omega), HV.out])
                      by_cases hv0 : v = 0
                      · have hvb : (v == 0) = true := by simp [hv0]
                        have HT2 := Lib.hid (show takeN b = ntN 5 by rw [HT.out, ← HG3.out, HST2.out, if_pos hv0]; exact end_bad (by decide))
                        clear hv0 hlt
                        go_wp2_with ((with_reducible refine wpList_store_row rfl 24 (.tmp 2) (.tmp 88) rfl w.heap.size #[.bool false, .slice none 0 0, .slice none 0 0] ?_ ?_ 24 _ RS6.out (size3 _ _ _) ?_ (one3 _ _ _ _ _ _ _) ?_); rfl; rfl; rfl)
                        refine ret_two rfl w.heap.size #[.bool false, .slice none 0 0, .slice none 0 0] (0, 0) rfl (setRow_heap _ _ _ _ _ _ RS6.out) rfl rfl (nt_post HT2.out (below_setRow BL6.out (Nat.le_refl _) _))
                      · have hvb : (v == 0) = false := by simp [hv0]
                        have HGN := Lib.hid (show goN (cnt - (j + 1)) ((r.drop 8).drop 8) (KS ++ [k]) (VS ++ [v]) = G by rw [HQ.out, ← HG3.out, HST2.out, if_neg hv0])
                        have HJ8 := Lib.hid (show (j + 1) * 8 ≤ 140737488355328 ∧ j + 1 ≤ 9223372036854775807 by omega)
                        clear hv0
                        have Sd := Lib.hid (St.drew ST6.out)
                        have Sa := Lib.hid (St.alloc Sd.out (.cells #[.int .u64 k] 25))
                        have Sab := Lib.hid (St.alloc Sa.out (.cells #[.int .u64 v] 25))
                        have Sb := Lib.hid (St.alloc Sd.out (.cells #[.int .u64 v] 25))
                        have Sba := Lib.hid (St.alloc Sb.out (.cells #[.int .u64 k] 25))
                        have ca : (w6.drew.alloc (.cells #[.int .u64 k] 25)).cell? ⟨w6.heap.size, 0, none⟩ = some (.int .u64 k) := cell_row (heap_alloc_new w6.drew _) rfl
                        have cab1 : ((w6.drew.alloc (.cells #[.int .u64 k] 25)).alloc (.cells #[.int .u64 v] 25)).cell? ⟨w6.heap.size, 0, none⟩ = some (.int .u64 k) := cell_row (alloc_row (heap_alloc_new w6.drew _) _) rfl
                        have cab2 : ((w6.drew.alloc (.cells #[.int .u64 k] 25)).alloc (.cells #[.int .u64 v] 25)).heap[w6.heap.size + 1]? = some (.cells #[.int .u64 v] 25) := heap_alloc2_new w6.drew _ _
                        have cba1 : ((w6.drew.alloc (.cells #[.int .u64 v] 25)).alloc (.cells #[.int .u64 k] 25)).heap[w6.heap.size]? = some (.cells #[.int .u64 v] 25) := alloc_row (heap_alloc_new w6.drew _) _
                        have cba2 : ((w6.drew.alloc (.cells #[.int .u64 v] 25)).alloc (.cells #[.int .u64 k] 25)).cell? ⟨w6.heap.size + 1, 0, none⟩ = some (.int .u64 k) := cell_row (heap_alloc2_new w6.drew _ _) rfl
                        obtain ⟨B1a, e1, x1, rx1, ox1, gx1, bx1⟩ := app_one (c := 1) Try.underlying22 info64 Sab.out.ok cab1 HJ8.out.1 HJ8.out.2 Sab.out.le
                        obtain ⟨B2a, e2, x2, rx2, ox2, gx2, bx2⟩ := app_one (c := 1) Try.underlying22 info64 Sba.out.ok cba2 HJ8.out.1 HJ8.out.2 Sba.out.le
                        obtain ⟨B3a, e3, x3, rx3, ox3, gx3, bx3⟩ := app_one (c := 1) Try.underlying22 info64 Sa.out.ok ca HJ8.out.1 HJ8.out.2 Sa.out.le
                        have X1 := Lib.hid (St.app_k Sab.out ox1 gx1 bx1)
                        have X2 := Lib.hid (St.app_k Sba.out ox2 gx2 bx2)
                        have X3 := Lib.hid (St.app_k Sa.out ox3 gx3 bx3)
                        have C1 := Lib.hid (show x1.cell? ⟨w6.heap.size + 1, 0, none⟩ = some (.int .u64 v) from cell_row (St_keep_new gx1 (fun p hp => by have := own_lt Sd.out.ok p hp; exact (show p < w6.heap.size from this)) (Nat.le_succ _) cab2) rfl)
                        have C2 := Lib.hid (show x2.cell? ⟨w6.heap.size, 0, none⟩ = some (.int .u64 v) from cell_row (St_keep_new gx2 (fun p hp => by have := own_lt Sd.out.ok p hp; exact (show p < w6.heap.size from this)) (Nat.le_refl _) cba1) rfl)
                        have X3b := Lib.hid (St.alloc X3.out (.cells #[.int .u64 v] 25))
                        have C3 := Lib.hid (show (x3.alloc (.cells #[.int .u64 v] 25)).cell? ⟨x3.heap.size, 0, none⟩ = some (.int .u64 v) from cell_row (heap_alloc_new x3 _) rfl)
                        have RX1 := Lib.hid rx1
                        have RX2 := Lib.hid rx2
                        have RX3 := Lib.hid rx3
                        clear ca cab1 cab2 cba1 cba2 rx1 ox1 gx1 bx1 rx2 ox2 gx2 bx2 rx3 ox3 gx3 bx3
                        go_wp2_with fail
                        refine start_ (n := 14) (S := fun w' => w'.cell? ⟨w1.heap.size, 1, none⟩ = some (.slice A1 j c1) ∧ w'.cell? ⟨w1.heap.size, 2, none⟩ = some (.slice A2 j c2)) (ds := [11, 13]) #[false, false, false, false, false, false, false, false, false, false, false, false, false, false] (by kernel_rfl) rfl rfl ⟨cell_row Sd.out.node rfl, cell_row Sd.out.node rfl⟩ (fun hHeld => ?_)
                        refine pure_ (i := 0) (N := some 89) (v := ?_) (a' := ?_) #[true, false, false, false, false, false, false, false, false, false, false, false, false, false] rfl rfl (by kernel_rfl) (fun _ _ _ h => h) (Or.inl ⟨by rfl, ?_⟩) ?_ ?_
                        rotate_left
                        · intro w'
                          go_simp
                          with_reducible rfl
                        rotate_left
                        · simp only [Act.put, List.setIfInBounds_toArray, List.set_cons_zero, List.set_cons_succ, i64_w, i32_w]
                          rfl
                        refine pure_ (i := 2) (N := some 91) (v := ?_) (a' := ?_) #[true, false, true, false, false, false, false, false, false, false, false, false, false, false] rfl rfl (by kernel_rfl) (fun _ _ _ h => h) (Or.inl ⟨by rfl, ?_⟩) ?_ ?_
                        rotate_left
                        · intro w'
                          go_simp
                          with_reducible rfl
                        rotate_left
                        · simp only [Act.put, List.setIfInBounds_toArray, List.set_cons_zero, List.set_cons_succ, i64_w, i32_w]
                          rfl
                        refine pure_ (i := 5) (N := some 94) (v := ?_) (a' := ?_) #[true, false, true, false, false, true, false, false, false, false, false, false, false, false] rfl rfl (by kernel_rfl) (fun _ _ _ h => h) (Or.inl ⟨by rfl, ?_⟩) ?_ ?_
                        rotate_left
                        · intro w'
                          go_simp
                          with_reducible rfl
                        rotate_left
                        · simp only [Act.put, List.setIfInBounds_toArray, List.set_cons_zero, List.set_cons_succ, i64_w, i32_w]
                          rfl
                        refine pure_ (i := 7) (N := some 96) (v := ?_) (a' := ?_) #[true, false, true, false, false, true, false, true, false, false, false, false, false, false] rfl rfl (by kernel_rfl) (fun _ _ _ h => h) (Or.inl ⟨by rfl, ?_⟩) ?_ ?_
                        rotate_left
                        · intro w'
                          go_simp
                          with_reducible rfl
                        rotate_left
                        · simp only [Act.put, List.setIfInBounds_toArray, List.set_cons_zero, List.set_cons_succ, i64_w, i32_w]
                          rfl
                        refine take_ (i := 1) (N := some 90) (v := ?_) (a' := ?_) #[true, true, true, false, false, true, false, true, false, false, false, false, false, false] rfl rfl (by kernel_rfl) (fun _ _ _ h => h) (Or.inl ⟨by rfl, ?_⟩) hHeld ?_ ?_
                        rotate_left
                        · rintro w' ⟨s0, s1⟩
                          go_simp
                          with_reducible rfl
                        rotate_left
                        · simp only [Act.put, List.setIfInBounds_toArray, List.set_cons_zero, List.set_cons_succ, i64_w, i32_w]
                          rfl
                        refine take_ (i := 6) (N := some 95) (v := ?_) (a' := ?_) #[true, true, true, false, false, true, true, true, false, false, false, false, false, false] rfl rfl (by kernel_rfl) (fun _ _ _ h => h) (Or.inl ⟨by rfl, ?_⟩) hHeld ?_ ?_
                        rotate_left
                        · rintro w' ⟨s0, s1⟩
                          go_simp
                          with_reducible rfl
                        rotate_left
                        · simp only [Act.put, List.setIfInBounds_toArray, List.set_cons_zero, List.set_cons_succ, i64_w, i32_w]
                          rfl
                        refine join_ (σ := Nat × Option Addr × Nat × Nat) 4 #[true, true, true, true, true, true, true, true, true, false, true, false, false, false] (fun s => [(92, .slice (some ⟨s.1, 0, none⟩) 1 1), (93, .slice s.2.1 (j + 1) s.2.2.1), (97, .slice (some ⟨s.2.2.2, 0, none⟩) 1 1), (99, .pointer (some ⟨w1.heap.size, 1, none⟩))]) (fun s w' => St w w4.heap.size w1.heap.size 24 25 #[.bool L, .slice A1 j c1, .slice A2 j c2] [(w3.heap.size, .cells #[.slice A6 (m - 8 - 8) (mc - 8 - 8)] 72), (w.heap.size, .cells #[.bool false, .slice none 0 0, .slice none 0 0] 24)] (.slice s.2.1 (j + 1) s.2.2.1) (.slice A2 j c2) (j + 1) j (KS ++ [k]) VS w' ∧ w'.cell? ⟨s.2.2.2, 0, none⟩ = some (.int .u64 v)) ?_ ?_
                        rotate_left
                        · intro hCont
                          refine two_ (i := 3) (j := 8) (Ni := some 92) (Nj := some 97) #[true, true, true, true, false, true, true, true, false, false, false, false, false, false] #[true, true, true, false, false, true, true, true, true, false, false, false, false, false] rfl rfl rfl rfl (by kernel_rfl) (by decide) (by decide) (fun K hK => ?_) (fun K hK => ?_)
                          · skip
                            refine value_ (w1 := ?_) (v := ?_) (by rfl) rfl ?_ ?_
                            rotate_left 2
                            · go_simp
                              constructor
                              · rfl
                              · rfl
                            refine hK.out _ _ ⟨cell_row Sa.out.node rfl, cell_row Sa.out.node rfl⟩ (fun hHeld => ?_)
                            clear hK K
                            refine norm_ (a' := ?_) ?_ ?_
                            rotate_left
                            · show Act.put _ (some 92) _ = _
                              simp only [Act.put, List.setIfInBounds_toArray, List.set_cons_zero, List.set_cons_succ, i64_w, i32_w]
                              rfl
                            refine two_ (i := 4) (j := 8) (Ni := some 93) (Nj := some 97) #[true, true, true, true, true, true, true, true, false, false, false, false, false, false] #[true, true, true, true, false, true, true, true, true, false, false, false, false, false] rfl rfl rfl rfl (by kernel_rfl) (by decide) (by decide) (fun K hK => ?_) (fun K hK => ?_)
                            · skip
                              refine value_ (w1 := x3) (v := .slice B3a (j + 1) e3) (by rfl) rfl (exec_app (.tmp 90) (.tmp 92) ?_ ?_ ?_ RX3.out) ?_
                              · rfl
                              · rfl
                              · rfl
                              refine hK.out _ _ ⟨cell_row X3.out.node rfl, cell_row X3.out.node rfl⟩ (fun hHeld => ?_)
                              clear hK K
                              refine norm_ (a' := ?_) ?_ ?_
                              rotate_left
                              · show Act.put _ (some 93) _ = _
                                simp only [Act.put, List.setIfInBounds_toArray, List.set_cons_zero, List.set_cons_succ, i64_w, i32_w]
                                rfl
                              refine pure_ (i := 10) (N := some 99) (v := ?_) (a' := ?_) #[true, true, true, true, true, true, true, true, false, false, true, false, false, false] rfl rfl (by kernel_rfl) (fun _ _ _ h => h) (Or.inl ⟨by rfl, ?_⟩) ?_ ?_
                              rotate_left
                              · intro w'
                                go_simp
                                with_reducible rfl
                              rotate_left
                              · simp only [Act.put, List.setIfInBounds_toArray, List.set_cons_zero, List.set_cons_succ, i64_w, i32_w]
                                rfl
                              refine one_ (i := 8) (N := some 97) #[true, true, true, true, true, true, true, true, true, false, true, false, false, false] rfl rfl (by kernel_rfl) (by decide) (fun K hK => ?_)
                              refine value_ (w1 := ?_) (v := ?_) (by rfl) rfl ?_ ?_
                              rotate_left 2
                              · go_simp
                                constructor
                                · rfl
                                · rfl
                              refine hK.out _ _ ⟨cell_row X3b.out.node rfl, cell_row X3b.out.node rfl⟩ (fun hHeld => ?_)
                              clear hK K
                              refine norm_ (a' := ?_) ?_ ?_
                              rotate_left
                              · show Act.put _ (some 97) _ = _
                                simp only [Act.put, List.setIfInBounds_toArray, List.set_cons_zero, List.set_cons_succ, i64_w, i32_w]
                                rfl
                              exact norm_ (by simp only [putAll, Act.put, List.setIfInBounds_toArray, List.set_cons_zero, List.set_cons_succ]) (hCont (w6.heap.size, B3a, e3, x3.heap.size) _ ⟨X3b.out, C3.out⟩)
                            · skip
                              refine value_ (w1 := ?_) (v := ?_) (by rfl) rfl ?_ ?_
                              rotate_left 2
                              · go_simp
                                constructor
                                · rfl
                                · rfl
                              refine hK.out _ _ ⟨cell_row Sab.out.node rfl, cell_row Sab.out.node rfl⟩ (fun hHeld => ?_)
                              clear hK K
                              refine norm_ (a' := ?_) ?_ ?_
                              rotate_left
                              · show Act.put _ (some 97) _ = _
                                simp only [Act.put, List.setIfInBounds_toArray, List.set_cons_zero, List.set_cons_succ, i64_w, i32_w]
                                rfl
                              refine one_ (i := 4) (N := some 93) #[true, true, true, true, true, true, true, true, true, false, false, false, false, false] rfl rfl (by kernel_rfl) (by decide) (fun K hK => ?_)
                              refine value_ (w1 := x1) (v := .slice B1a (j + 1) e1) (by rfl) rfl (exec_app (.tmp 90) (.tmp 92) ?_ ?_ ?_ RX1.out) ?_
                              · rfl
                              · rfl
                              · rfl
                              refine hK.out _ _ ⟨cell_row X1.out.node rfl, cell_row X1.out.node rfl⟩ (fun hHeld => ?_)
                              clear hK K
                              refine norm_ (a' := ?_) ?_ ?_
                              rotate_left
                              · show Act.put _ (some 93) _ = _
                                simp only [Act.put, List.setIfInBounds_toArray, List.set_cons_zero, List.set_cons_succ, i64_w, i32_w]
                                rfl
                              refine pure_ (i := 10) (N := some 99) (v := ?_) (a' := ?_) #[true, true, true, true, true, true, true, true, true, false, true, false, false, false] rfl rfl (by kernel_rfl) (fun _ _ _ h => h) (Or.inl ⟨by rfl, ?_⟩) ?_ ?_
                              rotate_left
                              · intro w'
                                go_simp
                                with_reducible rfl
                              rotate_left
                              · simp only [Act.put, List.setIfInBounds_toArray, List.set_cons_zero, List.set_cons_succ, i64_w, i32_w]
                                rfl
                              exact norm_ (by simp only [putAll, Act.put, List.setIfInBounds_toArray, List.set_cons_zero, List.set_cons_succ]) (hCont (w6.heap.size, B1a, e1, w6.heap.size + 1) _ ⟨X1.out, C1.out⟩)
                          · skip
                            refine value_ (w1 := ?_) (v := ?_) (by rfl) rfl ?_ ?_
                            rotate_left 2
                            · go_simp
                              constructor
                              · rfl
                              · rfl
                            refine hK.out _ _ ⟨cell_row Sb.out.node rfl, cell_row Sb.out.node rfl⟩ (fun hHeld => ?_)
                            clear hK K
                            refine norm_ (a' := ?_) ?_ ?_
                            rotate_left
                            · show Act.put _ (some 97) _ = _
                              simp only [Act.put, List.setIfInBounds_toArray, List.set_cons_zero, List.set_cons_succ, i64_w, i32_w]
                              rfl
                            refine one_ (i := 3) (N := some 92) #[true, true, true, true, false, true, true, true, true, false, false, false, false, false] rfl rfl (by kernel_rfl) (by decide) (fun K hK => ?_)
                            refine value_ (w1 := ?_) (v := ?_) (by rfl) rfl ?_ ?_
                            rotate_left 2
                            · go_simp
                              constructor
                              · rfl
                              · rfl
                            refine hK.out _ _ ⟨cell_row Sba.out.node rfl, cell_row Sba.out.node rfl⟩ (fun hHeld => ?_)
                            clear hK K
                            refine norm_ (a' := ?_) ?_ ?_
                            rotate_left
                            · show Act.put _ (some 92) _ = _
                              simp only [Act.put, List.setIfInBounds_toArray, List.set_cons_zero, List.set_cons_succ, i64_w, i32_w]
                              rfl
                            refine one_ (i := 4) (N := some 93) #[true, true, true, true, true, true, true, true, true, false, false, false, false, false] rfl rfl (by kernel_rfl) (by decide) (fun K hK => ?_)
                            refine value_ (w1 := x2) (v := .slice B2a (j + 1) e2) (by rfl) rfl (exec_app (.tmp 90) (.tmp 92) ?_ ?_ ?_ RX2.out) ?_
                            · rfl
                            · rfl
                            · rfl
                            refine hK.out _ _ ⟨cell_row X2.out.node rfl, cell_row X2.out.node rfl⟩ (fun hHeld => ?_)
                            clear hK K
                            refine norm_ (a' := ?_) ?_ ?_
                            rotate_left
                            · show Act.put _ (some 93) _ = _
                              simp only [Act.put, List.setIfInBounds_toArray, List.set_cons_zero, List.set_cons_succ, i64_w, i32_w]
                              rfl
                            refine pure_ (i := 10) (N := some 99) (v := ?_) (a' := ?_) #[true, true, true, true, true, true, true, true, true, false, true, false, false, false] rfl rfl (by kernel_rfl) (fun _ _ _ h => h) (Or.inl ⟨by rfl, ?_⟩) ?_ ?_
                            rotate_left
                            · intro w'
                              go_simp
                              with_reducible rfl
                            rotate_left
                            · simp only [Act.put, List.setIfInBounds_toArray, List.set_cons_zero, List.set_cons_succ, i64_w, i32_w]
                              rfl
                            exact norm_ (by simp only [putAll, Act.put, List.setIfInBounds_toArray, List.set_cons_zero, List.set_cons_succ]) (hCont (w6.heap.size + 1, B2a, e2, w6.heap.size) _ ⟨X2.out, C2.out⟩)
                        rintro ⟨g1, A4, c4, g2⟩ w7 ⟨hst7, hc7⟩
                        have ST7 := Lib.hid hst7
                        have hHeld : w7.cell? ⟨w1.heap.size, 1, none⟩ = some (.slice A1 j c1) ∧ w7.cell? ⟨w1.heap.size, 2, none⟩ = some (.slice A2 j c2) := ⟨cell_row hst7.node rfl, cell_row hst7.node rfl⟩
                        clear hst7
                        refine norm_ (a' := ?_) ?_ ?_
                        rotate_left
                        · simp only [putAll, Act.put, List.setIfInBounds_toArray, List.set_cons_zero, List.set_cons_succ]
                          rfl
                        refine one_ (i := 9) (N := some 98) #[true, true, true, true, true, true, true, true, true, true, true, false, false, false] rfl rfl (by kernel_rfl) (by decide) (fun K hK => ?_)
                        obtain ⟨A5, c5, w8, hr8, ho8, hg8, hb8⟩ := app_one (c := 1) Try.underlying22 info64 ST7.out.ov hc7 HJ8.out.1 HJ8.out.2 ST7.out.le
                        have ST8 := Lib.hid (St.app_v ST7.out ho8 hg8 hb8)
                        have RX8 := Lib.hid hr8
                        clear ho8 hg8 hb8 hr8
                        refine value_ (w1 := w8) (v := .slice A5 (j + 1) c5) (by rfl) rfl (exec_app (.tmp 95) (.tmp 97) ?_ ?_ ?_ RX8.out) ?_
                        · rfl
                        · rfl
                        · rfl
                        refine hK.out _ _ ⟨cell_row ST8.out.node rfl, cell_row ST8.out.node rfl⟩ (fun hHeld => ?_)
                        clear hK K
                        refine norm_ (a' := ?_) ?_ ?_
                        rotate_left
                        · show Act.put _ (some 98) _ = _
                          simp only [Act.put, List.setIfInBounds_toArray, List.set_cons_zero, List.set_cons_succ, i64_w, i32_w]
                          rfl
                        refine last_ (i := 11) (N := none) #[true, true, true, true, true, true, true, true, true, true, true, true, false, false] rfl rfl (by kernel_rfl) (by decide) (fun K hK => ?_)
                        obtain ⟨w9, hw9⟩ : ∃ w9, w8.setCell ⟨w1.heap.size, 1, none⟩ (.slice A4 (j + 1) c4) = w9 := ⟨_, rfl⟩
                        have ST9 := Lib.hid (St.put ST8.out 1 (.slice A4 (j + 1) c4) (nd' := #[.bool L, .slice A4 (j + 1) c4, .slice A2 j c2]) rfl)
                        rw [hw9] at ST9
                        have q8 : w8.cell? ⟨w1.heap.size, 1, none⟩ = some (.slice A1 j c1) := cell_row ST8.out.node rfl
                        have z8 : w8.frozen? ⟨w1.heap.size, 1, none⟩ = false := blk_frozen ST8.out.node 1
                        refine skip_ (w1 := ?_) (by rfl) rfl ?_ ?_
                        rotate_left
                        · go_simp
                          rfl
                        refine hK.out _ _ ?_
                        clear hK K
                        refine pure_ (i := 12) (N := some 100) (v := ?_) (a' := ?_) #[true, true, true, true, true, true, true, true, true, true, true, true, true, false] rfl rfl (by kernel_rfl) (fun _ _ _ h => h) (Or.inl ⟨by rfl, ?_⟩) ?_ ?_
                        rotate_left
                        · intro w'
                          go_simp
                          with_reducible rfl
                        rotate_left
                        · simp only [Act.put, List.setIfInBounds_toArray, List.set_cons_zero, List.set_cons_succ, i64_w, i32_w]
                          rfl
                        refine last_ (i := 13) (N := none) #[true, true, true, true, true, true, true, true, true, true, true, true, true, true] rfl rfl (by kernel_rfl) (by decide) (fun K hK => ?_)
                        obtain ⟨w10, hw10⟩ : ∃ w10, w9.setCell ⟨w1.heap.size, 2, none⟩ (.slice A5 (j + 1) c5) = w10 := ⟨_, rfl⟩
                        have ST10 := Lib.hid (St.put ST9.out 2 (.slice A5 (j + 1) c5) (nd' := #[.bool L, .slice A4 (j + 1) c4, .slice A5 (j + 1) c5]) rfl)
                        rw [hw10] at ST10
                        have q9 : w9.cell? ⟨w1.heap.size, 2, none⟩ = some (.slice A2 j c2) := cell_row ST9.out.node rfl
                        have z9 : w9.frozen? ⟨w1.heap.size, 2, none⟩ = false := blk_frozen ST9.out.node 2
                        refine skip_ (w1 := ?_) (by rfl) rfl ?_ ?_
                        rotate_left
                        · go_simp
                          rfl
                        refine hK.out _ _ ?_
                        clear hK K
                        refine done_ (by kernel_rfl) ?_
                        clear q8 z8 q9 z9 hw9 hw10
                        go_wp2_with fail
                        go_roundw
                        case rel => exact ⟨j + 1, m - 8 - 8, mc - 8 - 8, A6, A4, A5, c4, c5, (r.drop 8).drop 8, KS ++ [k], VS ++ [v], by omega, by go_num, RR6.out, fun x hx => RW.out x (List.mem_of_mem_drop (List.mem_of_mem_drop hx)), by have := MC.out; omega, (ST10.out.rows _ (List.mem_cons_self ..)).1, St_drop ST10.out, HGN.out⟩
                        case measure => simp [intOf]; omega
                  · obtain ⟨i, hi⟩ : ∃ i, j - 1 = i := ⟨_, rfl⟩
                    have hjz : decide (0 < (j : Int)) = true := decide_eq_true (by omega)
                    have hjn : decide (0 < j) = true := decide_eq_true (by omega)
                    have hij : (j : Int) - 1 = (i : Int) := by omega
                    have hiv : (i : Int) < (j : Int) := by omega
                    obtain ⟨kd, rfl, hc2⟩ := cell_at (reads_own_of ST5.out.ok KL.out rfl) i (by omega)
                    obtain ⟨z, hz⟩ : ∃ z, z = KS.getD i 0 := ⟨_, rfl⟩
                    rw [← hz] at hc2
                    by_cases hkz : k ≤ z
                    · have hb1 : decide (k ≤ z) = true := decide_eq_true hkz
                      have HT2 := Lib.hid (show takeN b = ntN 5 by rw [HT.out, ← HG3.out, HSTEP.out, if_pos ⟨by have := KL.out; omega, by rw [KL.out, hi, ← hz]; exact hkz⟩]; exact end_bad (by decide))
                      clear hz hj0 hi hkz hlt
                      go_wp2_with ((with_reducible refine wpList_store_row rfl 24 (.tmp 2) (.tmp 76) rfl w.heap.size #[.bool false, .slice none 0 0, .slice none 0 0] ?_ ?_ 24 _ RS5.out (size3 _ _ _) ?_ (one3 _ _ _ _ _ _ _) ?_); rfl; rfl; rfl)
                      refine ret_two rfl w.heap.size #[.bool false, .slice none 0 0, .slice none 0 0] (0, 0) rfl (setRow_heap _ _ _ _ _ _ RS5.out) rfl rfl (nt_post HT2.out (below_setRow BL5.out (Nat.le_refl _) _))
                    · have hb1 : decide (k ≤ z) = false := decide_eq_false hkz
                      have HST := Lib.hid (show goN (q + 1) r KS VS = stV (goN q) (r.drop 8) (KS ++ [k]) VS by rw [HSTEP.out, if_neg (fun h => hkz (by have := h.2; rw [KL.out, hi, ← hz] at this; exact this))])
                      clear hz hj0 hi hkz
                      have hcr5 : w5.cell? ⟨w3.heap.size, 0, none⟩ = some (.slice A3 (m - 8) (mc - 8)) := cell_row RD5.out rfl
                      have hfr5 : w5.frozen? ⟨w3.heap.size, 0, none⟩ = false := blk_frozen RD5.out 0
                      by_cases hm2 : m - 8 < 8
                      · have HT2 := Lib.hid (show takeN b = ntN 4 by rw [HT.out, ← HG3.out, HST.out]; unfold stV; rw [if_pos (by rw [List.length_drop, RL.out]; exact hm2)]; exact end_bad (by decide))
                        go_wp2_with fail
                        refine (number_short A3 (m - 8) (mc - 8) _ _ hm2 hcr5).mono ?_; rintro e w6 ⟨rfl, rfl⟩
                        clear hcr5 hfr5 hm2 hlt
                        go_wp2_with ((with_reducible refine wpList_store_row rfl 24 (.tmp 2) (.tmp 84) rfl w.heap.size #[.bool false, .slice none 0 0, .slice none 0 0] ?_ ?_ 24 _ RS5.out (size3 _ _ _) ?_ (one3 _ _ _ _ _ _ _) ?_); rfl; rfl; rfl)
                        refine ret_two rfl w.heap.size #[.bool false, .slice none 0 0, .slice none 0 0] (0, 0) rfl (setRow_heap _ _ _ _ _ _ RS5.out) rfl rfl (nt_post HT2.out (below_setRow BL5.out (Nat.le_refl _) _))
                      · have HM16 := Lib.hid hm2
                        go_wp2_with fail
                        refine (number_ok (r.drop 8) A3 (m - 8) (mc - 8) _ w _ RR5.out (fun x hx => RW.out x (List.mem_of_mem_drop hx)) (by have := MC.out; omega) (by omega) BL5.out hcr5 hfr5).mono ?_; rintro e w6 ⟨rfl, A6, hr6, hw6⟩
                        obtain ⟨v, hv⟩ : ∃ v, getN ((r.drop 8).take 8) = v := ⟨_, rfl⟩
                        rw [hv]
                        have st6 : St w w4.heap.size w1.heap.size 24 25 #[.bool L, .slice (some kd) j c1, .slice A2 j c2] [(w.heap.size, .cells #[.bool false, .slice none 0 0, .slice none 0 0] 24)] (.slice (some kd) j c1) (.slice A2 j c2) j j KS VS w6 := by
                          rw [hw6]; exact St_far ST5.out (by have := SZ.out; omega) (by have := SZ.out; omega) (by have := SZ.out; omega) (fun q hq => by obtain rfl := List.mem_singleton.1 hq; show w.heap.size ≠ w3.heap.size; have := SZ.out; omega) _
                        have rd6 : w6.heap[w3.heap.size]? = some (.cells #[.slice A6 (m - 8 - 8) (mc - 8 - 8)] 72) := by rw [hw6]; exact blk_put RD5.out 0 _ rfl
                        have ST6 := Lib.hid (St_add st6 rd6 (by have := SZ.out; omega) (by have := SZ.out; omega))
                        have RR6 := Lib.hid hr6
                        have HV := Lib.hid hv
                        have BL6 := Lib.hid st6.bel
                        have RS6 := Lib.hid (show w6.heap[w.heap.size]? = some (.cells #[.bool false, .slice none 0 0, .slice none 0 0] 24) from (st6.rows _ (List.mem_singleton.2 rfl)).1)
                        clear hcr5 hfr5 hm2 hr6 hw6 hv k1 st6 rd6
                        have HST2 := Lib.hid (show goN (q + 1) r KS VS = if v = 0 then badG 5 else goN q ((r.drop 8).drop 8) (KS ++ [k]) (VS ++ [v]) by
                          rw [HST.out]
                          show (if (r.drop 8).length < 8 then badG 4 else if getN ((r.drop 8).take 8) = 0 then badG 5 else goN q ((r.drop 8).drop 8) (KS ++ [k]) (VS ++ [getN ((r.drop 8).take 8)])) = _
                          rw [if_neg (by have := RL.out; have := HM16.out; rw [List.length_drop]; omega), HV.out])
                        by_cases hv0 : v = 0
                        · have hvb : (v == 0) = true := by simp [hv0]
                          have HT2 := Lib.hid (show takeN b = ntN 5 by rw [HT.out, ← HG3.out, HST2.out, if_pos hv0]; exact end_bad (by decide))
                          clear hv0 hlt
                          go_wp2_with ((with_reducible refine wpList_store_row rfl 24 (.tmp 2) (.tmp 88) rfl w.heap.size #[.bool false, .slice none 0 0, .slice none 0 0] ?_ ?_ 24 _ RS6.out (size3 _ _ _) ?_ (one3 _ _ _ _ _ _ _) ?_); rfl; rfl; rfl)
                          refine ret_two rfl w.heap.size #[.bool false, .slice none 0 0, .slice none 0 0] (0, 0) rfl (setRow_heap _ _ _ _ _ _ RS6.out) rfl rfl (nt_post HT2.out (below_setRow BL6.out (Nat.le_refl _) _))
                        · have hvb : (v == 0) = false := by simp [hv0]
                          have HGN := Lib.hid (show goN (cnt - (j + 1)) ((r.drop 8).drop 8) (KS ++ [k]) (VS ++ [v]) = G by rw [HQ.out, ← HG3.out, HST2.out, if_neg hv0])
                          have HJ8 := Lib.hid (show (j + 1) * 8 ≤ 140737488355328 ∧ j + 1 ≤ 9223372036854775807 by omega)
                          clear hv0
                          have Sd := Lib.hid (St.drew ST6.out)
                          have Sa := Lib.hid (St.alloc Sd.out (.cells #[.int .u64 k] 25))
                          have Sab := Lib.hid (St.alloc Sa.out (.cells #[.int .u64 v] 25))
                          have Sb := Lib.hid (St.alloc Sd.out (.cells #[.int .u64 v] 25))
                          have Sba := Lib.hid (St.alloc Sb.out (.cells #[.int .u64 k] 25))
                          have ca : (w6.drew.alloc (.cells #[.int .u64 k] 25)).cell? ⟨w6.heap.size, 0, none⟩ = some (.int .u64 k) := cell_row (heap_alloc_new w6.drew _) rfl
                          have cab1 : ((w6.drew.alloc (.cells #[.int .u64 k] 25)).alloc (.cells #[.int .u64 v] 25)).cell? ⟨w6.heap.size, 0, none⟩ = some (.int .u64 k) := cell_row (alloc_row (heap_alloc_new w6.drew _) _) rfl
                          have cab2 : ((w6.drew.alloc (.cells #[.int .u64 k] 25)).alloc (.cells #[.int .u64 v] 25)).heap[w6.heap.size + 1]? = some (.cells #[.int .u64 v] 25) := heap_alloc2_new w6.drew _ _
                          have cba1 : ((w6.drew.alloc (.cells #[.int .u64 v] 25)).alloc (.cells #[.int .u64 k] 25)).heap[w6.heap.size]? = some (.cells #[.int .u64 v] 25) := alloc_row (heap_alloc_new w6.drew _) _
                          have cba2 : ((w6.drew.alloc (.cells #[.int .u64 v] 25)).alloc (.cells #[.int .u64 k] 25)).cell? ⟨w6.heap.size + 1, 0, none⟩ = some (.int .u64 k) := cell_row (heap_alloc2_new w6.drew _ _) rfl
                          obtain ⟨B1a, e1, x1, rx1, ox1, gx1, bx1⟩ := app_one (c := 1) Try.underlying22 info64 Sab.out.ok cab1 HJ8.out.1 HJ8.out.2 Sab.out.le
                          obtain ⟨B2a, e2, x2, rx2, ox2, gx2, bx2⟩ := app_one (c := 1) Try.underlying22 info64 Sba.out.ok cba2 HJ8.out.1 HJ8.out.2 Sba.out.le
                          obtain ⟨B3a, e3, x3, rx3, ox3, gx3, bx3⟩ := app_one (c := 1) Try.underlying22 info64 Sa.out.ok ca HJ8.out.1 HJ8.out.2 Sa.out.le
                          have X1 := Lib.hid (St.app_k Sab.out ox1 gx1 bx1)
                          have X2 := Lib.hid (St.app_k Sba.out ox2 gx2 bx2)
                          have X3 := Lib.hid (St.app_k Sa.out ox3 gx3 bx3)
                          have C1 := Lib.hid (show x1.cell? ⟨w6.heap.size + 1, 0, none⟩ = some (.int .u64 v) from cell_row (St_keep_new gx1 (fun p hp => by have := own_lt Sd.out.ok p hp; exact (show p < w6.heap.size from this)) (Nat.le_succ _) cab2) rfl)
                          have C2 := Lib.hid (show x2.cell? ⟨w6.heap.size, 0, none⟩ = some (.int .u64 v) from cell_row (St_keep_new gx2 (fun p hp => by have := own_lt Sd.out.ok p hp; exact (show p < w6.heap.size from this)) (Nat.le_refl _) cba1) rfl)
                          have X3b := Lib.hid (St.alloc X3.out (.cells #[.int .u64 v] 25))
                          have C3 := Lib.hid (show (x3.alloc (.cells #[.int .u64 v] 25)).cell? ⟨x3.heap.size, 0, none⟩ = some (.int .u64 v) from cell_row (heap_alloc_new x3 _) rfl)
                          have RX1 := Lib.hid rx1
                          have RX2 := Lib.hid rx2
                          have RX3 := Lib.hid rx3
                          clear ca cab1 cab2 cba1 cba2 rx1 ox1 gx1 bx1 rx2 ox2 gx2 bx2 rx3 ox3 gx3 bx3
                          go_wp2_with fail
                          refine start_ (n := 14) (S := fun w' => w'.cell? ⟨w1.heap.size, 1, none⟩ = some (.slice (some kd) j c1) ∧ w'.cell? ⟨w1.heap.size, 2, none⟩ = some (.slice A2 j c2)) (ds := [11, 13]) #[false, false, false, false, false, false, false, false, false, false, false, false, false, false] (by kernel_rfl) rfl rfl ⟨cell_row Sd.out.node rfl, cell_row Sd.out.node rfl⟩ (fun hHeld => ?_)
                          refine pure_ (i := 0) (N := some 89) (v := ?_) (a' := ?_) #[true, false, false, false, false, false, false, false, false, false, false, false, false, false] rfl rfl (by kernel_rfl) (fun _ _ _ h => h) (Or.inl ⟨by rfl, ?_⟩) ?_ ?_
                          rotate_left
                          · intro w'
                            go_simp
                            with_reducible rfl
                          rotate_left
                          · simp only [Act.put, List.setIfInBounds_toArray, List.set_cons_zero, List.set_cons_succ, i64_w, i32_w]
                            rfl
                          refine pure_ (i := 2) (N := some 91) (v := ?_) (a' := ?_) #[true, false, true, false, false, false, false, false, false, false, false, false, false, false] rfl rfl (by kernel_rfl) (fun _ _ _ h => h) (Or.inl ⟨by rfl, ?_⟩) ?_ ?_
                          rotate_left
                          · intro w'
                            go_simp
                            with_reducible rfl
                          rotate_left
                          · simp only [Act.put, List.setIfInBounds_toArray, List.set_cons_zero, List.set_cons_succ, i64_w, i32_w]
                            rfl
                          refine pure_ (i := 5) (N := some 94) (v := ?_) (a' := ?_) #[true, false, true, false, false, true, false, false, false, false, false, false, false, false] rfl rfl (by kernel_rfl) (fun _ _ _ h => h) (Or.inl ⟨by rfl, ?_⟩) ?_ ?_
                          rotate_left
                          · intro w'
                            go_simp
                            with_reducible rfl
                          rotate_left
                          · simp only [Act.put, List.setIfInBounds_toArray, List.set_cons_zero, List.set_cons_succ, i64_w, i32_w]
                            rfl
                          refine pure_ (i := 7) (N := some 96) (v := ?_) (a' := ?_) #[true, false, true, false, false, true, false, true, false, false, false, false, false, false] rfl rfl (by kernel_rfl) (fun _ _ _ h => h) (Or.inl ⟨by rfl, ?_⟩) ?_ ?_
                          rotate_left
                          · intro w'
                            go_simp
                            with_reducible rfl
                          rotate_left
                          · simp only [Act.put, List.setIfInBounds_toArray, List.set_cons_zero, List.set_cons_succ, i64_w, i32_w]
                            rfl
                          refine take_ (i := 1) (N := some 90) (v := ?_) (a' := ?_) #[true, true, true, false, false, true, false, true, false, false, false, false, false, false] rfl rfl (by kernel_rfl) (fun _ _ _ h => h) (Or.inl ⟨by rfl, ?_⟩) hHeld ?_ ?_
                          rotate_left
                          · rintro w' ⟨s0, s1⟩
                            go_simp
                            with_reducible rfl
                          rotate_left
                          · simp only [Act.put, List.setIfInBounds_toArray, List.set_cons_zero, List.set_cons_succ, i64_w, i32_w]
                            rfl
                          refine take_ (i := 6) (N := some 95) (v := ?_) (a' := ?_) #[true, true, true, false, false, true, true, true, false, false, false, false, false, false] rfl rfl (by kernel_rfl) (fun _ _ _ h => h) (Or.inl ⟨by rfl, ?_⟩) hHeld ?_ ?_
                          rotate_left
                          · rintro w' ⟨s0, s1⟩
                            go_simp
                            with_reducible rfl
                          rotate_left
                          · simp only [Act.put, List.setIfInBounds_toArray, List.set_cons_zero, List.set_cons_succ, i64_w, i32_w]
                            rfl
                          refine join_ (σ := Nat × Option Addr × Nat × Nat) 4 #[true, true, true, true, true, true, true, true, true, false, true, false, false, false] (fun s => [(92, .slice (some ⟨s.1, 0, none⟩) 1 1), (93, .slice s.2.1 (j + 1) s.2.2.1), (97, .slice (some ⟨s.2.2.2, 0, none⟩) 1 1), (99, .pointer (some ⟨w1.heap.size, 1, none⟩))]) (fun s w' => St w w4.heap.size w1.heap.size 24 25 #[.bool L, .slice (some kd) j c1, .slice A2 j c2] [(w3.heap.size, .cells #[.slice A6 (m - 8 - 8) (mc - 8 - 8)] 72), (w.heap.size, .cells #[.bool false, .slice none 0 0, .slice none 0 0] 24)] (.slice s.2.1 (j + 1) s.2.2.1) (.slice A2 j c2) (j + 1) j (KS ++ [k]) VS w' ∧ w'.cell? ⟨s.2.2.2, 0, none⟩ = some (.int .u64 v)) ?_ ?_
                          rotate_left
                          · intro hCont
                            refine two_ (i := 3) (j := 8) (Ni := some 92) (Nj := some 97) #[true, true, true, true, false, true, true, true, false, false, false, false, false, false] #[true, true, true, false, false, true, true, true, true, false, false, false, false, false] rfl rfl rfl rfl (by kernel_rfl) (by decide) (by decide) (fun K hK => ?_) (fun K hK => ?_)
                            · skip
                              refine value_ (w1 := ?_) (v := ?_) (by rfl) rfl ?_ ?_
                              rotate_left 2
                              · go_simp
                                constructor
                                · rfl
                                · rfl
                              refine hK.out _ _ ⟨cell_row Sa.out.node rfl, cell_row Sa.out.node rfl⟩ (fun hHeld => ?_)
                              clear hK K
                              refine norm_ (a' := ?_) ?_ ?_
                              rotate_left
                              · show Act.put _ (some 92) _ = _
                                simp only [Act.put, List.setIfInBounds_toArray, List.set_cons_zero, List.set_cons_succ, i64_w, i32_w]
                                rfl
                              refine two_ (i := 4) (j := 8) (Ni := some 93) (Nj := some 97) #[true, true, true, true, true, true, true, true, false, false, false, false, false, false] #[true, true, true, true, false, true, true, true, true, false, false, false, false, false] rfl rfl rfl rfl (by kernel_rfl) (by decide) (by decide) (fun K hK => ?_) (fun K hK => ?_)
                              · skip
                                refine value_ (w1 := x3) (v := .slice B3a (j + 1) e3) (by rfl) rfl (exec_app (.tmp 90) (.tmp 92) ?_ ?_ ?_ RX3.out) ?_
                                · rfl
                                · rfl
                                · rfl
                                refine hK.out _ _ ⟨cell_row X3.out.node rfl, cell_row X3.out.node rfl⟩ (fun hHeld => ?_)
                                clear hK K
                                refine norm_ (a' := ?_) ?_ ?_
                                rotate_left
                                · show Act.put _ (some 93) _ = _
                                  simp only [Act.put, List.setIfInBounds_toArray, List.set_cons_zero, List.set_cons_succ, i64_w, i32_w]
                                  rfl
                                refine pure_ (i := 10) (N := some 99) (v := ?_) (a' := ?_) #[true, true, true, true, true, true, true, true, false, false, true, false, false, false] rfl rfl (by kernel_rfl) (fun _ _ _ h => h) (Or.inl ⟨by rfl, ?_⟩) ?_ ?_
                                rotate_left
                                · intro w'
                                  go_simp
                                  with_reducible rfl
                                rotate_left
                                · simp only [Act.put, List.setIfInBounds_toArray, List.set_cons_zero, List.set_cons_succ, i64_w, i32_w]
                                  rfl
                                refine one_ (i := 8) (N := some 97) #[true, true, true, true, true, true, true, true, true, false, true, false, false, false] rfl rfl (by kernel_rfl) (by decide) (fun K hK => ?_)
                                refine value_ (w1 := ?_) (v := ?_) (by rfl) rfl ?_ ?_
                                rotate_left 2
                                · go_simp
                                  constructor
                                  · rfl
                                  · rfl
                                refine hK.out _ _ ⟨cell_row X3b.out.node rfl, cell_row X3b.out.node rfl⟩ (fun hHeld => ?_)
                                clear hK K
                                refine norm_ (a' := ?_) ?_ ?_
                                rotate_left
                                · show Act.put _ (some 97) _ = _
                                  simp only [Act.put, List.setIfInBounds_toArray, List.set_cons_zero, List.set_cons_succ, i64_w, i32_w]
                                  rfl
                                exact norm_ (by simp only [putAll, Act.put, List.setIfInBounds_toArray, List.set_cons_zero, List.set_cons_succ]) (hCont (w6.heap.size, B3a, e3, x3.heap.size) _ ⟨X3b.out, C3.out⟩)
                              · skip
                                refine value_ (w1 := ?_) (v := ?_) (by rfl) rfl ?_ ?_
                                rotate_left 2
                                · go_simp
                                  constructor
                                  · rfl
                                  · rfl
                                refine hK.out _ _ ⟨cell_row Sab.out.node rfl, cell_row Sab.out.node rfl⟩ (fun hHeld => ?_)
                                clear hK K
                                refine norm_ (a' := ?_) ?_ ?_
                                rotate_left
                                · show Act.put _ (some 97) _ = _
                                  simp only [Act.put, List.setIfInBounds_toArray, List.set_cons_zero, List.set_cons_succ, i64_w, i32_w]
                                  rfl
                                refine one_ (i := 4) (N := some 93) #[true, true, true, true, true, true, true, true, true, false, false, false, false, false] rfl rfl (by kernel_rfl) (by decide) (fun K hK => ?_)
                                refine value_ (w1 := x1) (v := .slice B1a (j + 1) e1) (by rfl) rfl (exec_app (.tmp 90) (.tmp 92) ?_ ?_ ?_ RX1.out) ?_
                                · rfl
                                · rfl
                                · rfl
                                refine hK.out _ _ ⟨cell_row X1.out.node rfl, cell_row X1.out.node rfl⟩ (fun hHeld => ?_)
                                clear hK K
                                refine norm_ (a' := ?_) ?_ ?_
                                rotate_left
                                · show Act.put _ (some 93) _ = _
                                  simp only [Act.put, List.setIfInBounds_toArray, List.set_cons_zero, List.set_cons_succ, i64_w, i32_w]
                                  rfl
                                refine pure_ (i := 10) (N := some 99) (v := ?_) (a' := ?_) #[true, true, true, true, true, true, true, true, true, false, true, false, false, false] rfl rfl (by kernel_rfl) (fun _ _ _ h => h) (Or.inl ⟨by rfl, ?_⟩) ?_ ?_
                                rotate_left
                                · intro w'
                                  go_simp
                                  with_reducible rfl
                                rotate_left
                                · simp only [Act.put, List.setIfInBounds_toArray, List.set_cons_zero, List.set_cons_succ, i64_w, i32_w]
                                  rfl
                                exact norm_ (by simp only [putAll, Act.put, List.setIfInBounds_toArray, List.set_cons_zero, List.set_cons_succ]) (hCont (w6.heap.size, B1a, e1, w6.heap.size + 1) _ ⟨X1.out, C1.out⟩)
                            · skip
                              refine value_ (w1 := ?_) (v := ?_) (by rfl) rfl ?_ ?_
                              rotate_left 2
                              · go_simp
                                constructor
                                · rfl
                                · rfl
                              refine hK.out _ _ ⟨cell_row Sb.out.node rfl, cell_row Sb.out.node rfl⟩ (fun hHeld => ?_)
                              clear hK K
                              refine norm_ (a' := ?_) ?_ ?_
                              rotate_left
                              · show Act.put _ (some 97) _ = _
                                simp only [Act.put, List.setIfInBounds_toArray, List.set_cons_zero, List.set_cons_succ, i64_w, i32_w]
                                rfl
                              refine one_ (i := 3) (N := some 92) #[true, true, true, true, false, true, true, true, true, false, false, false, false, false] rfl rfl (by kernel_rfl) (by decide) (fun K hK => ?_)
                              refine value_ (w1 := ?_) (v := ?_) (by rfl) rfl ?_ ?_
                              rotate_left 2
                              · go_simp
                                constructor
                                · rfl
                                · rfl
                              refine hK.out _ _ ⟨cell_row Sba.out.node rfl, cell_row Sba.out.node rfl⟩ (fun hHeld => ?_)
                              clear hK K
                              refine norm_ (a' := ?_) ?_ ?_
                              rotate_left
                              · show Act.put _ (some 92) _ = _
                                simp only [Act.put, List.setIfInBounds_toArray, List.set_cons_zero, List.set_cons_succ, i64_w, i32_w]
                                rfl
                              refine one_ (i := 4) (N := some 93) #[true, true, true, true, true, true, true, true, true, false, false, false, false, false] rfl rfl (by kernel_rfl) (by decide) (fun K hK => ?_)
                              refine value_ (w1 := x2) (v := .slice B2a (j + 1) e2) (by rfl) rfl (exec_app (.tmp 90) (.tmp 92) ?_ ?_ ?_ RX2.out) ?_
                              · rfl
                              · rfl
                              · rfl
                              refine hK.out _ _ ⟨cell_row X2.out.node rfl, cell_row X2.out.node rfl⟩ (fun hHeld => ?_)
                              clear hK K
                              refine norm_ (a' := ?_) ?_ ?_
                              rotate_left
                              · show Act.put _ (some 93) _ = _
                                simp only [Act.put, List.setIfInBounds_toArray, List.set_cons_zero, List.set_cons_succ, i64_w, i32_w]
                                rfl
                              refine pure_ (i := 10) (N := some 99) (v := ?_) (a' := ?_) #[true, true, true, true, true, true, true, true, true, false, true, false, false, false] rfl rfl (by kernel_rfl) (fun _ _ _ h => h) (Or.inl ⟨by rfl, ?_⟩) ?_ ?_
                              rotate_left
                              · intro w'
                                go_simp
                                with_reducible rfl
                              rotate_left
                              · simp only [Act.put, List.setIfInBounds_toArray, List.set_cons_zero, List.set_cons_succ, i64_w, i32_w]
                                rfl
                              exact norm_ (by simp only [putAll, Act.put, List.setIfInBounds_toArray, List.set_cons_zero, List.set_cons_succ]) (hCont (w6.heap.size + 1, B2a, e2, w6.heap.size) _ ⟨X2.out, C2.out⟩)
                          rintro ⟨g1, A4, c4, g2⟩ w7 ⟨hst7, hc7⟩
                          have ST7 := Lib.hid hst7
                          have hHeld : w7.cell? ⟨w1.heap.size, 1, none⟩ = some (.slice (some kd) j c1) ∧ w7.cell? ⟨w1.heap.size, 2, none⟩ = some (.slice A2 j c2) := ⟨cell_row hst7.node rfl, cell_row hst7.node rfl⟩
                          clear hst7
                          refine norm_ (a' := ?_) ?_ ?_
                          rotate_left
                          · simp only [putAll, Act.put, List.setIfInBounds_toArray, List.set_cons_zero, List.set_cons_succ]
                            rfl
                          refine one_ (i := 9) (N := some 98) #[true, true, true, true, true, true, true, true, true, true, true, false, false, false] rfl rfl (by kernel_rfl) (by decide) (fun K hK => ?_)
                          obtain ⟨A5, c5, w8, hr8, ho8, hg8, hb8⟩ := app_one (c := 1) Try.underlying22 info64 ST7.out.ov hc7 HJ8.out.1 HJ8.out.2 ST7.out.le
                          have ST8 := Lib.hid (St.app_v ST7.out ho8 hg8 hb8)
                          have RX8 := Lib.hid hr8
                          clear ho8 hg8 hb8 hr8
                          refine value_ (w1 := w8) (v := .slice A5 (j + 1) c5) (by rfl) rfl (exec_app (.tmp 95) (.tmp 97) ?_ ?_ ?_ RX8.out) ?_
                          · rfl
                          · rfl
                          · rfl
                          refine hK.out _ _ ⟨cell_row ST8.out.node rfl, cell_row ST8.out.node rfl⟩ (fun hHeld => ?_)
                          clear hK K
                          refine norm_ (a' := ?_) ?_ ?_
                          rotate_left
                          · show Act.put _ (some 98) _ = _
                            simp only [Act.put, List.setIfInBounds_toArray, List.set_cons_zero, List.set_cons_succ, i64_w, i32_w]
                            rfl
                          refine last_ (i := 11) (N := none) #[true, true, true, true, true, true, true, true, true, true, true, true, false, false] rfl rfl (by kernel_rfl) (by decide) (fun K hK => ?_)
                          obtain ⟨w9, hw9⟩ : ∃ w9, w8.setCell ⟨w1.heap.size, 1, none⟩ (.slice A4 (j + 1) c4) = w9 := ⟨_, rfl⟩
                          have ST9 := Lib.hid (St.put ST8.out 1 (.slice A4 (j + 1) c4) (nd' := #[.bool L, .slice A4 (j + 1) c4, .slice A2 j c2]) rfl)
                          rw [hw9] at ST9
                          have q8 : w8.cell? ⟨w1.heap.size, 1, none⟩ = some (.slice (some kd) j c1) := cell_row ST8.out.node rfl
                          have z8 : w8.frozen? ⟨w1.heap.size, 1, none⟩ = false := blk_frozen ST8.out.node 1
                          refine skip_ (w1 := ?_) (by rfl) rfl ?_ ?_
                          rotate_left
                          · go_simp
                            rfl
                          refine hK.out _ _ ?_
                          clear hK K
                          refine pure_ (i := 12) (N := some 100) (v := ?_) (a' := ?_) #[true, true, true, true, true, true, true, true, true, true, true, true, true, false] rfl rfl (by kernel_rfl) (fun _ _ _ h => h) (Or.inl ⟨by rfl, ?_⟩) ?_ ?_
                          rotate_left
                          · intro w'
                            go_simp
                            with_reducible rfl
                          rotate_left
                          · simp only [Act.put, List.setIfInBounds_toArray, List.set_cons_zero, List.set_cons_succ, i64_w, i32_w]
                            rfl
                          refine last_ (i := 13) (N := none) #[true, true, true, true, true, true, true, true, true, true, true, true, true, true] rfl rfl (by kernel_rfl) (by decide) (fun K hK => ?_)
                          obtain ⟨w10, hw10⟩ : ∃ w10, w9.setCell ⟨w1.heap.size, 2, none⟩ (.slice A5 (j + 1) c5) = w10 := ⟨_, rfl⟩
                          have ST10 := Lib.hid (St.put ST9.out 2 (.slice A5 (j + 1) c5) (nd' := #[.bool L, .slice A4 (j + 1) c4, .slice A5 (j + 1) c5]) rfl)
                          rw [hw10] at ST10
                          have q9 : w9.cell? ⟨w1.heap.size, 2, none⟩ = some (.slice A2 j c2) := cell_row ST9.out.node rfl
                          have z9 : w9.frozen? ⟨w1.heap.size, 2, none⟩ = false := blk_frozen ST9.out.node 2
                          refine skip_ (w1 := ?_) (by rfl) rfl ?_ ?_
                          rotate_left
                          · go_simp
                            rfl
                          refine hK.out _ _ ?_
                          clear hK K
                          refine done_ (by kernel_rfl) ?_
                          clear q8 z8 q9 z9 hw9 hw10
                          go_wp2_with fail
                          go_roundw
                          case rel => exact ⟨j + 1, m - 8 - 8, mc - 8 - 8, A6, A4, A5, c4, c5, (r.drop 8).drop 8, KS ++ [k], VS ++ [v], by omega, by go_num, RR6.out, fun x hx => RW.out x (List.mem_of_mem_drop (List.mem_of_mem_drop hx)), by have := MC.out; omega, (ST10.out.rows _ (List.mem_cons_self ..)).1, St_drop ST10.out, HGN.out⟩
                          case measure => simp [intOf]; omega
              · obtain rfl : j = cnt := by omega
                have hG0 : G = ⟨0, KS, VS, r⟩ := by rw [← HG2.out, Nat.sub_self]; rfl
                have HTE := Lib.hid (show takeN b = if r.all (· == 0) then ⟨0, L, KS, VS⟩ else ntN 5 by rw [HT.out, hG0]; simp [endN])
                have HJJ : decide ((j : Int) < (j : Int)) = false := by simp
                have hmx : (m : Int) ≤ 9223372036854775807 := by have := RR2.out.2.1; omega
                clear hG0 hj hlt
                go_wp2_with fail
                go_loop [107] (fun i => ∃ q : Nat, q ≤ m ∧ i = .int .i64 (q : Int) ∧ (r.take q).all (· == 0) = true) (fun i => m - (intOf i).toNat)
                case atStart => exact ⟨0, by omega, rfl, rfl⟩
                case round =>
                  obtain ⟨q, hq, rfl, hall⟩ := hrel
                  have HA := Lib.hid hall
                  clear hall HJJ hcr hfr
                  by_cases hlt : q < m
                  · have hjv : (q : Int) < (m : Int) := by omega
                    have hjd : decide ((q : Int) < (m : Int)) = true := decide_eq_true hjv
                    obtain ⟨rd, rfl, hc2⟩ := cell_at HRb.out q hlt
                    obtain ⟨z, hz⟩ : ∃ z, z = r.getD q 0 := ⟨_, rfl⟩
                    rw [← hz] at hc2
                    have HZ := Lib.hid (show r[q]'(by have := RL.out; omega) = z by rw [hz, List.getD_eq_getElem?_getD, List.getElem?_eq_getElem (by have := RL.out; omega)]; rfl)
                    by_cases hz0 : z = 0
                    · have hb1 : (z == 0) = true := by simp [hz0]
                      have hb2 : (z != 0) = false := by simp [hz0]
                      have HN := Lib.hid (show (r.take (q + 1)).all (· == 0) = true by rw [List.take_succ_eq_append_getElem (by have := RL.out; omega), List.all_append, HA.out, HZ.out]; simp [hz0])
                      clear hz hz0 hq
                      go_wp2_with fail
                      go_round
                      case rel => exact ⟨q + 1, by omega, by go_num, HN.out⟩
                      case measure => simp [intOf]; omega
                    · have hb1 : (z == 0) = false := by simp [hz0]
                      have hb2 : (z != 0) = true := by simp [hz0]
                      have HT2 := Lib.hid (show takeN b = ntN 5 by
                        rw [HTE.out, if_neg]
                        intro h
                        rw [List.all_eq_true] at h
                        have := h (r[q]'(by have := RL.out; omega)) (List.getElem_mem _)
                        rw [HZ.out] at this
                        exact hz0 (by simpa using this))
                      clear hz hz0 hq HZ hlt
                      go_wp2_with ((with_reducible refine wpList_store_row rfl 24 (.tmp 2) (.tmp 113) rfl w.heap.size #[.bool false, .slice none 0 0, .slice none 0 0] ?_ ?_ 24 _ RS.out (size3 _ _ _) ?_ (one3 _ _ _ _ _ _ _) ?_); rfl; rfl; rfl)
                      refine ret_two rfl w.heap.size #[.bool false, .slice none 0 0, .slice none 0 0] (0, 0) rfl (setRow_heap _ _ _ _ _ _ RS.out) rfl rfl (nt_post HT2.out (below_setRow BL.out (Nat.le_refl _) _))
                  · obtain rfl : q = m := by omega
                    have HT2 := Lib.hid (show takeN b = ⟨0, L, KS, VS⟩ by rw [HTE.out, if_pos]; have := HA.out; rwa [List.take_of_length_le (by have := RL.out; omega)] at this)
                    clear hq hlt
                    go_wp2_with (first | ((with_reducible refine wpList_load_row rfl 24 (.tmp 4) rfl w1.heap.size ?_ 24 _ _ _ ST.out.node Try.underlying24 ?_ (size3 _ _ _) ?_); rfl; rfl) | ((with_reducible refine wpList_store_row rfl 24 (.tmp 2) (.tmp 115) rfl w.heap.size #[.bool L, .slice A1 j c1, .slice A2 j c2] ?_ ?_ 24 _ RS.out (size3 _ _ _) ?_ (one3 _ _ _ _ _ _ _) ?_); rfl; rfl; rfl))
                    refine ret_two rfl w.heap.size #[.bool L, .slice A1 j c1, .slice A2 j c2] (0, 0) rfl (setRow_heap _ _ _ _ _ _ RS.out) rfl rfl ?_
                    rw [HT2.out]
                    show ∃ A1 c1 A2 c2, _ = Ending.returned (.tuple #[.agg #[.bool L, .slice A1 KS.length c1, .slice A2 VS.length c2], .int .i64 0]) ∧ _
                    rw [KL.out, VL.out]
                    have hle : w.heap.size ≤ w4.heap.size := by have := SZ.out; omega
                    have hlt4 : w.heap.size < w4.heap.size := by have := SZ.out; omega
                    exact ⟨A1, c1, A2, c2, rfl, own_weaken (own_setRow ST.out.ok (own_ne ST.out.ok hlt4) _) hle, own_weaken (own_setRow ST.out.ov (own_ne ST.out.ov hlt4) _) hle, ST.out.sep, below_setRow BL.out (Nat.le_refl _) _⟩
end Go.Proofs.Ytdekplalhfpooaa.Nod
