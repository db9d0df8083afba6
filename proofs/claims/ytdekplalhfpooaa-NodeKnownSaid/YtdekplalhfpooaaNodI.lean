/- What bytes say as a node: the document's number and Take (every input). -/
import Derived.Test.YtdekplalhfpooaaNodH
set_option linter.unusedVariables false
set_option linter.unusedSimpArgs false
namespace Go.Proofs.Ytdekplalhfpooaa.Nod
open Go Go.RowKit Go.Proofs.YtdekplalhfpooaaW.PrintWords Go.Proofs.YtdekplalhfpooaaW.PrintLast Go.Proofs.YtdekplalhfpooaaW.PrintMore Base Odr Hlp

theorem St_app_k {w W W' : World} {base gN : Nat} {tN e : TypeId} {nd : Array Value} {R : List (Nat × Obj)} {vk vv : Value} {nk nv : Nat} {K V : List Int} (h : St w base gN tN e nd R vk vv nk nv K V W) {vk' : Value} {nk' : Nat} {K' : List Int} (ho : W'.ownsRow base e 1 vk' nk' (nums .u64 K')) (hg : W.grownBy W' vk.ownBlock) (hv : vk'.ownBlock = vk.ownBlock ∨ ∃ b, vk'.ownBlock = some b ∧ W.heap.size ≤ b) :
    St w base gN tN e nd R vk' vv nk' nv K' V W' := by
  have hr : ∀ k, vk.ownBlock = some k → base ≤ k := fun k hk => own_base h.ok k hk
  refine ⟨ho, own_other h.ov hg ?_, ?_, h.keep hg hr h.node h.lt, fun p hp => ⟨h.keep hg hr (h.rows p hp).1 (h.rows p hp).2.1, (h.rows p hp).2⟩, pw_below_grown h.bel _ h.bel.size hg (fun k hk => Nat.le_trans h.hN (Nat.le_trans (Nat.le_of_lt h.lt) (hr k hk))), h.lt, Nat.le_trans h.le hg.size, h.hN⟩
  · cases hvv : vv.ownBlock with
    | none => exact .inl rfl
    | some p => exact .inr fun hh => h.sep p hh.symm hvv
  · intro p hp hq
    rcases hv with hv | ⟨b, hb, hle⟩
    · exact h.sep p (hv ▸ hp) hq
    · rw [hb] at hp
      injection hp with hp
      have := own_lt h.ov p hq
      omega
theorem St_app_v {w W W' : World} {base gN : Nat} {tN e : TypeId} {nd : Array Value} {R : List (Nat × Obj)} {vk vv : Value} {nk nv : Nat} {K V : List Int} (h : St w base gN tN e nd R vk vv nk nv K V W) {vv' : Value} {nv' : Nat} {V' : List Int} (ho : W'.ownsRow base e 1 vv' nv' (nums .u64 V')) (hg : W.grownBy W' vv.ownBlock) (hv : vv'.ownBlock = vv.ownBlock ∨ ∃ b, vv'.ownBlock = some b ∧ W.heap.size ≤ b) :
    St w base gN tN e nd R vk vv' nk nv' K V' W' := by
  have hr : ∀ k, vv.ownBlock = some k → base ≤ k := fun k hk => own_base h.ov k hk
  refine ⟨own_other h.ok hg ?_, ho, ?_, h.keep hg hr h.node h.lt, fun p hp => ⟨h.keep hg hr (h.rows p hp).1 (h.rows p hp).2.1, (h.rows p hp).2⟩, pw_below_grown h.bel _ h.bel.size hg (fun k hk => Nat.le_trans h.hN (Nat.le_trans (Nat.le_of_lt h.lt) (hr k hk))), h.lt, Nat.le_trans h.le hg.size, h.hN⟩
  · cases hvk : vk.ownBlock with
    | none => exact .inl rfl
    | some p => exact .inr fun hh => h.sep p hvk hh.symm
  · intro p hp hq
    rcases hv with hv | ⟨b, hb, hle⟩
    · exact h.sep p hp (hv ▸ hq)
    · rw [hb] at hq
      injection hq with hq
      have := own_lt h.ok p hp
      omega
set_option maxHeartbeats 1600000 in
theorem rnum_any (xs : List Int) (A : Option Addr) (n c : Nat) (w : World) (HR : ReadsInt w .u8 A n xs) (hw : ∀ x ∈ xs, (Lit.int .u8 x).wf = true) (hs : 8 ≤ n) :
    Calls Try.prog 56 #[.slice A n c] w fun e w' => e = .returned (.int .u64 (getN (xs.take 8))) ∧ w = w' := by
  have hl := HR.1
  have HRH := Lib.hid HR
  have HW := Lib.hid hw
  have HL := Lib.hid hl
  have hn8 : (8 : Int) ≤ (n : Int) := by omega
  clear HR hw hl
  go_enter Try.func56, Try.ntmps56
  go_wp2_with fail
  go_loop [3, 4] (fun v i => ∃ j : Nat, j ≤ 8 ∧ i = .int .i64 (j : Int) ∧ v = .int .u64 (getN (xs.take j))) (fun _ i => 8 - (intOf i).toNat)
  case atStart => exact ⟨0, by omega, rfl, rfl⟩
  case round =>
    obtain ⟨j, hj, rfl, rfl⟩ := hrel
    by_cases hlt : j < 8
    · obtain ⟨ad, rfl, hcell⟩ := cell_at HRH.out j (by omega)
      have hjn : (j : Int) < (n : Int) := by omega
      have hlen : j < xs.length := by rw [HL.out]; omega
      have hx8 := le_of_wf8 (HW.out (xs.getD j 0) (by rw [List.getD_eq_getElem?_getD, List.getElem?_eq_getElem hlen]; exact List.getElem_mem _))
      have hb := getN_bound j (xs.take j) (by rw [List.length_take, HL.out]; omega) (fun x hx => HW.out x (List.mem_of_mem_take hx))
      have hp : (256 : Int) ^ j ≤ 72057594037927936 := by
        have h : ∀ j, j < 8 → (256 : Int) ^ j ≤ 72057594037927936 := by decide
        exact h j (by omega)
      have hsu : getN (xs.take (j + 1)) = getN (xs.take j) * 256 + xs.getD j 0 := by
        rw [List.take_succ_eq_append_getElem hlen, getN_snoc, List.getD_eq_getElem?_getD, List.getElem?_eq_getElem hlen]; rfl
      obtain ⟨a, ha⟩ : ∃ a, getN (xs.take j) = a := ⟨_, rfl⟩
      obtain ⟨y, hy⟩ : ∃ y, xs.getD j 0 = y := ⟨_, rfl⟩
      rw [ha] at hb hsu ⊢
      rw [hy] at hcell hx8 hsu
      have HSU := Lib.hid hsu
      obtain ⟨a0, a1⟩ := hb
      have a2 : a < 72057594037927936 := by omega
      obtain ⟨y0, y1⟩ := hx8
      clear ha hy hsu a1 hp hlen
      go_wp2_with fail
      go_round
      case rel => exact ⟨j + 1, by omega, by go_num, by rw [HSU.out, Int.mul_comm]⟩
      case measure => simp [intOf]; omega
    · obtain rfl : j = 8 := by omega
      go_wp2_with fail
      go_ret
      exact ⟨rfl, rfl⟩

set_option maxRecDepth 100000 in
set_option maxHeartbeats 6400000 in
theorem rtake_any (b : List Int) (A : Option Addr) (n c : Nat) (w : World) (HR : ReadsInt w .u8 A n b) (hw : ∀ x ∈ b, (Lit.int .u8 x).wf = true) (hc : n ≤ c) :
    Calls Try.prog 36 #[.slice A n c] w fun e w' => ∃ A1 c1 A2 c2, e = .returned (.tuple #[.agg #[.bool (takeN b).L, .slice A1 (takeN b).K.length c1, .slice A2 (takeN b).V.length c2], .int .i64 (takeN b).e]) ∧
      w'.ownsRow w.heap.size 25 1 (.slice A1 (takeN b).K.length c1) (takeN b).K.length (nums .u64 (takeN b).K) ∧ w'.ownsRow w.heap.size 25 1 (.slice A2 (takeN b).V.length c2) (takeN b).V.length (nums .u64 (takeN b).V) ∧
      (∀ p, (Value.slice A1 (takeN b).K.length c1).ownBlock = some p → (Value.slice A2 (takeN b).V.length c2).ownBlock ≠ some p) ∧ Below w.heap.size w w' := by
  have LB := Lib.hid HR.1
  have hmx : (n : Int) ≤ 9223372036854775807 := by have := HR.2.1; omega
  obtain ⟨w1, hw1, b1, f1, s1⟩ := made w #[.bool false, .slice none 0 0, .slice none 0 0] 24
  have RES1 := Lib.hid f1
  have B1 := Lib.hid b1
  have R1 := Lib.hid (ReadsInt.below HR b1)
  have R0 := Lib.hid HR
  have HW := Lib.hid hw
  clear HR hw b1 f1
  go_enter Try.func36, Try.ntmps36
  by_cases h0 : n = 0
  · have d1 : ((n : Int) == 0) = true := by simp [h0]
    have HT := Lib.hid (show takeN b = ntN 4 by unfold takeN; rw [if_pos (by have := LB.out; omega)])
    clear h0
    go_wp2_with ((with_reducible refine wpList_store_row rfl 24 (.tmp 2) (.tmp 13) rfl w.heap.size #[.bool false, .slice none 0 0, .slice none 0 0] ?_ ?_ 24 _ RES1.out (size3 _ _ _) ?_ (one3 _ _ _ _ _ _ _) ?_); rfl; rfl; rfl)
    refine ret_two rfl w.heap.size #[.bool false, .slice none 0 0, .slice none 0 0] (0, 0) rfl (setRow_heap _ _ _ _ _ _ RES1.out) rfl rfl (nt_post HT.out (below_setRow B1.out (Nat.le_refl _) _))
  · have d1 : ((n : Int) == 0) = false := by simp [h0]
    have hi0 : (0 : Int) < (n : Int) := by omega
    obtain ⟨ad, rfl, hc0⟩ := cell_at R1.out 0 (by omega)
    obtain ⟨x0, hx0⟩ : ∃ x, x = b.getD 0 0 := ⟨_, rfl⟩
    rw [← hx0] at hc0
    have hc0' : w1.cell? ad = some (.int .u8 x0) := hc0
    have h00 : 0 ≤ x0 := by
      rw [hx0, List.getD_eq_getElem?_getD, List.getElem?_eq_getElem (show 0 < b.length by have := LB.out; omega)]
      exact (le_of_wf8 (HW.out _ (List.getElem_mem _))).1
    have HX0 := Lib.hid hx0
    have H0 := Lib.hid h0
    clear hc0 hx0 h0
    by_cases h1 : 1 < x0
    · have d2 : (x0 != 0) = true := by simp; omega
      have d2' : (x0 != 1) = true := by simp; omega
      have HT := Lib.hid (show takeN b = ntN 5 by unfold takeN; rw [if_neg (by have := LB.out; have := H0.out; omega), if_pos (by rw [← HX0.out]; exact h1)])
      clear h1 h00
      go_wp2_with ((with_reducible refine wpList_store_row rfl 24 (.tmp 2) (.tmp 24) rfl w.heap.size #[.bool false, .slice none 0 0, .slice none 0 0] ?_ ?_ 24 _ RES1.out (size3 _ _ _) ?_ (one3 _ _ _ _ _ _ _) ?_); rfl; rfl; rfl)
      refine ret_two rfl w.heap.size #[.bool false, .slice none 0 0, .slice none 0 0] (0, 0) rfl (setRow_heap _ _ _ _ _ _ RES1.out) rfl rfl (nt_post HT.out (below_setRow B1.out (Nat.le_refl _) _))
    · obtain ⟨t0, ht0⟩ : ∃ t, (x0 != 0) = t := ⟨_, rfl⟩
      have d2 : t0 = true → (x0 != 1) = false := by intro h; rw [← ht0] at h; simp at h; simp; omega
      have H1 := Lib.hid h1
      clear h1 h00
      cases t0
      · clear d2
        by_cases h2 : n = 1
        · have d3 : ((n : Int) == 1) = true := by simp [h2]
          have HT := Lib.hid (show takeN b = ntN 4 by unfold takeN; rw [if_neg (by have := LB.out; have := H0.out; omega), if_neg (by rw [← HX0.out]; exact H1.out), if_pos (by have := LB.out; omega)])
          clear h2
          go_wp2_with ((with_reducible refine wpList_store_row rfl 24 (.tmp 2) (.tmp 28) rfl w.heap.size #[.bool false, .slice none 0 0, .slice none 0 0] ?_ ?_ 24 _ RES1.out (size3 _ _ _) ?_ (one3 _ _ _ _ _ _ _) ?_); rfl; rfl; rfl)
          refine ret_two rfl w.heap.size #[.bool false, .slice none 0 0, .slice none 0 0] (0, 0) rfl (setRow_heap _ _ _ _ _ _ RES1.out) rfl rfl (nt_post HT.out (below_setRow B1.out (Nat.le_refl _) _))
        · have d3 : ((n : Int) == 1) = false := by simp; omega
          have hi1 : (1 : Int) < (n : Int) := by have := H0.out; omega
          obtain ⟨ad', e1, hc1⟩ := cell_at R1.out 1 (by omega)
          cases e1
          obtain ⟨x1, hx1⟩ : ∃ x, x = b.getD 1 0 := ⟨_, rfl⟩
          rw [← hx1] at hc1
          have hc1' : w1.cell? ⟨ad.block, ad.off + 1, none⟩ = some (.int .u8 x1) := by simpa [Addr.add] using hc1
          have h10 : 0 ≤ x1 ∧ x1 < 256 := by
            rw [hx1, List.getD_eq_getElem?_getD, List.getElem?_eq_getElem (show 1 < b.length by have := LB.out; omega)]
            exact le_of_wf8 (HW.out _ (List.getElem_mem _))
          have HX1 := Lib.hid hx1
          have H2 := Lib.hid h2
          clear hc1 hx1 h2
          obtain ⟨cnt, rfl⟩ : ∃ k : Nat, x1 = (k : Int) := ⟨x1.toNat, by omega⟩
          have hcb : (cnt : Int) < 256 := h10.2
          by_cases h3 : cnt = 0
          · have d4 : ((cnt : Int) == 0) = true := by simp [h3]
            have HT := Lib.hid (show takeN b = ntN 5 by unfold takeN; rw [if_neg (by have := LB.out; have := H0.out; omega), if_neg (by rw [← HX0.out]; exact H1.out), if_neg (by have := LB.out; have := H2.out; have := H0.out; omega), if_pos (Or.inl (by rw [← HX1.out]; omega))])
            clear h3 h10
            go_wp2_with ((with_reducible refine wpList_store_row rfl 24 (.tmp 2) (.tmp 39) rfl w.heap.size #[.bool false, .slice none 0 0, .slice none 0 0] ?_ ?_ 24 _ RES1.out (size3 _ _ _) ?_ (one3 _ _ _ _ _ _ _) ?_); rfl; rfl; rfl)
            refine ret_two rfl w.heap.size #[.bool false, .slice none 0 0, .slice none 0 0] (0, 0) rfl (setRow_heap _ _ _ _ _ _ RES1.out) rfl rfl (nt_post HT.out (below_setRow B1.out (Nat.le_refl _) _))
          · have d4 : ((cnt : Int) == 0) = false := by simp [h3]
            by_cases h4 : 8 < cnt
            · have d5 : decide (8 < (cnt : Int)) = true := decide_eq_true (by omega)
              have HT := Lib.hid (show takeN b = ntN 5 by unfold takeN; rw [if_neg (by have := LB.out; have := H0.out; omega), if_neg (by rw [← HX0.out]; exact H1.out), if_neg (by have := LB.out; have := H2.out; have := H0.out; omega), if_pos (Or.inr (by rw [← HX1.out]; omega))])
              clear h3 h4 h10
              go_wp2_with ((with_reducible refine wpList_store_row rfl 24 (.tmp 2) (.tmp 39) rfl w.heap.size #[.bool false, .slice none 0 0, .slice none 0 0] ?_ ?_ 24 _ RES1.out (size3 _ _ _) ?_ (one3 _ _ _ _ _ _ _) ?_); rfl; rfl; rfl)
              refine ret_two rfl w.heap.size #[.bool false, .slice none 0 0, .slice none 0 0] (0, 0) rfl (setRow_heap _ _ _ _ _ _ RES1.out) rfl rfl (nt_post HT.out (below_setRow B1.out (Nat.le_refl _) _))
            · have d5 : decide (8 < (cnt : Int)) = false := decide_eq_false (by omega)
              have hn8 : (cnt : Int) ≤ 8 := by omega
              obtain ⟨L, hL⟩ : ∃ L, (x0 == 1) = L := ⟨_, rfl⟩
              obtain ⟨G, hG⟩ : ∃ G, goN cnt (b.drop 2) [] [] = G := ⟨_, rfl⟩
              have HT := Lib.hid (show takeN b = endN L G from take_end (by have := LB.out; have := H2.out; have := H0.out; omega) HX0.out H1.out HX1.out (by omega) hL rfl hG)
              have HG := Lib.hid hG
              obtain ⟨w2, hw2, b2, f2, s2⟩ := made w1 #[.bool false, .slice none 0 0, .slice none 0 0] 24
              obtain ⟨w3, hw3⟩ : ∃ w3, w2.setRow w1.heap.size #[.bool L, .slice none 0 0, .slice none 0 0] = w3 := ⟨_, rfl⟩
              have f3 : w3.heap[w1.heap.size]? = some (.cells #[.bool L, .slice none 0 0, .slice none 0 0] 24) := by rw [← hw3]; exact setRow_heap _ _ _ _ _ _ f2
              have r3 : w3.heap[w.heap.size]? = some (.cells #[.bool false, .slice none 0 0, .slice none 0 0] 24) := by rw [← hw3, setRow_other _ _ _ _ (by omega)]; exact keep_row RES1.out b2
              have b3 : Below w.heap.size w w3 := by rw [← hw3]; exact below_setRow (below_then B1.out B1.out.size b2) (by omega) _
              have s3 : w3.heap.size = w2.heap.size := by rw [← hw3]; simp [World.setRow]
              have ST3 := Lib.hid (show St w w3.heap.size w1.heap.size 24 25 #[.bool L, .slice none 0 0, .slice none 0 0] [(w.heap.size, .cells #[.bool false, .slice none 0 0, .slice none 0 0] 24)] (.slice none 0 0) (.slice none 0 0) 0 0 [] [] w3 from
                ⟨own_nil _ _ _ _, own_nil _ _ _ _, fun p hp => by simp [Value.ownBlock] at hp, f3, fun p hp => by
                  obtain rfl := List.mem_singleton.1 hp
                  exact ⟨r3, by show w.heap.size < w3.heap.size; omega, by show w.heap.size ≠ w1.heap.size; omega⟩, b3, by omega, Nat.le_refl _, by omega⟩)
              have SZ := Lib.hid (show w1.heap.size = w.heap.size + 1 ∧ w3.heap.size = w.heap.size + 2 by omega)
              have F2 := Lib.hid f2
              have HN2 := Lib.hid (show 2 ≤ n by omega)
              clear s1 b2 f2 s2 f3 r3 b3 s3 hG h3 h4 h10
              go_wp2_with (first | ((with_reducible refine wpList_store_row rfl 24 (.tmp 5) (.tmp 44) rfl w1.heap.size #[.bool L, .slice none 0 0, .slice none 0 0] ?_ ?_ 24 _ F2.out (size3 _ _ _) ?_ (one3 _ _ _ _ _ _ _) ?_); rfl; rfl; rfl; rw [hw3]) | fail)
              go_loopw [6, 7] (fun at_ i wr => ∃ (t a nk nv : Nat) (A1 A2 : Option Addr) (c1 c2 : Nat) (KS VS : List Int), i = .int .i64 (t : Int) ∧ at_ = .int .i64 (a : Int) ∧ a = 2 + 8 * t ∧ a ≤ n ∧ t ≤ 2 * cnt ∧
                St w w3.heap.size w1.heap.size 24 25 #[.bool L, .slice A1 nk c1, .slice A2 nv c2] [(w.heap.size, .cells #[.bool false, .slice none 0 0, .slice none 0 0] 24)] (.slice A1 nk c1) (.slice A2 nv c2) nk nv KS VS wr ∧
                ((t = 2 * nv ∧ nk = nv ∧ nv ≤ cnt ∧ goN (cnt - nv) (b.drop a) KS VS = G) ∨ (t = 2 * nv + 1 ∧ nk = nv + 1 ∧ nv < cnt ∧ stV (goN (cnt - nv - 1)) (b.drop a) KS VS = G))) (fun _ i _ => 2 * cnt - (intOf i).toNat)
              case atStart => exact ⟨0, 2, 0, 0, none, none, 0, 0, [], [], rfl, rfl, rfl, HN2.out, by omega, ST3.out, Or.inl ⟨rfl, rfl, by omega, HG.out⟩⟩
              case round =>
                obtain ⟨t, a, nk, nv, A1, A2, c1, c2, KS, VS, rfl, rfl, ha, han, htc, hst, hcase⟩ := hrel
                have ST := Lib.hid hst
                have BL := Lib.hid hst.bel
                have RS := Lib.hid (show wr.heap[w.heap.size]? = some (.cells #[.bool false, .slice none 0 0, .slice none 0 0] 24) from (hst.rows _ (List.mem_singleton.2 rfl)).1)
                have KL := Lib.hid (show KS.length = nk by have := hst.ok.1; simpa [nums] using this)
                have VL := Lib.hid (show VS.length = nv by have := hst.ov.1; simpa [nums] using this)
                have HA := Lib.hid ha
                have HCS := Lib.hid hcase
                have HTC := Lib.hid htc
                have hai : (a : Int) ≤ (n : Int) := by omega
                have htb : (t : Int) ≤ 16 := by omega
                have HAN := Lib.hid han
                clear hst ha hcase hc0' hc1' ST3 HG hi0 hi1 d1 d3 d4 d5 ht0 htc han
                by_cases hlt : t < 2 * cnt
                · have hjv : (t : Int) < 2 * (cnt : Int) := by omega
                  have hjd : decide ((t : Int) < 2 * (cnt : Int)) = true := decide_eq_true hjv
                  by_cases hm : n < a + 8
                  · have hmd : decide ((n : Int) - (a : Int) < 8) = true := decide_eq_true (by omega)
                    have HT2 := Lib.hid (show takeN b = ntN 4 by
                      rw [HT.out]
                      rcases HCS.out with ⟨q1, q2, q3, q4⟩ | ⟨q1, q2, q3, q4⟩
                      · rw [← q4, show cnt - nv = (cnt - nv - 1) + 1 by omega]; unfold goN; rw [if_pos (by rw [List.length_drop, LB.out]; omega)]; exact end_bad (by decide)
                      · rw [← q4]; unfold stV; rw [if_pos (by rw [List.length_drop, LB.out]; omega)]; exact end_bad (by decide))
                    clear hm hlt
                    go_wp2_with ((with_reducible refine wpList_store_row rfl 24 (.tmp 2) (.tmp 56) rfl w.heap.size #[.bool false, .slice none 0 0, .slice none 0 0] ?_ ?_ 24 _ RS.out (size3 _ _ _) ?_ (one3 _ _ _ _ _ _ _) ?_); rfl; rfl; rfl)
                    refine ret_two rfl w.heap.size #[.bool false, .slice none 0 0, .slice none 0 0] (0, 0) rfl (setRow_heap _ _ _ _ _ _ RS.out) rfl rfl (nt_post HT2.out (below_setRow BL.out (Nat.le_refl _) _))
                  · have hmd : decide ((n : Int) - (a : Int) < 8) = false := decide_eq_false (by omega)
                    have HM := Lib.hid hm
                    obtain ⟨i0, hi0', hs0⟩ := info8'
                    obtain ⟨A3, hA3, hr3⟩ := print_cut (P := Try.prog) 41 5 .i64 Try.underlying41 hi0' hs0 (some ad) n c a HAN.out
                    have RC := Lib.hid (ReadsInt.below (hr3 _ _ _ hc R0.out) BL.out)
                    clear hr3 hi0' hs0 i0 hm
                    go_wp2_with fail
                    refine (rnum_any (b.drop a) A3 (n - a) (c - a) _ RC.out (fun x hx => HW.out x (List.mem_of_mem_drop hx)) (by have := HM.out; omega)).mono ?_; rintro e w5 ⟨rfl, rfl⟩
                    obtain ⟨k, hk⟩ : ∃ k, getN ((b.drop a).take 8) = k := ⟨_, rfl⟩
                    rw [hk]
                    have HK := Lib.hid hk
                    have HDL := Lib.hid (show ¬ (b.drop a).length < 8 by rw [List.length_drop, LB.out]; have := HM.out; omega)
                    have k1 : wr.cell? ⟨w1.heap.size, 1, none⟩ = some (.slice A1 nk c1) := cell_row ST.out.node rfl
                    have k2 : wr.cell? ⟨w1.heap.size, 2, none⟩ = some (.slice A2 nv c2) := cell_row ST.out.node rfl
                    have ha8 : (a : Int) + 8 ≤ (n : Int) := by have := HM.out; omega
                    clear hA3 hk
                    rcases HCS.out with ⟨q1, q2, q3, q4⟩ | ⟨q1, q2, q3, q4⟩
                    · subst q2
                      have Q := Lib.hid (show t = 2 * nk ∧ nk < cnt by omega)
                      have HSTEP := Lib.hid (show G = if 0 < KS.length ∧ k ≤ KS.getD (KS.length - 1) 0 then badG 5 else stV (goN (cnt - nk - 1)) (b.drop (a + 8)) (KS ++ [k]) VS by
                        obtain ⟨q, hq⟩ : ∃ q, cnt - nk = q + 1 := ⟨cnt - nk - 1, by have := Q.out; omega⟩
                        rw [← q4, hq, show q + 1 - 1 = q by omega]
                        show (if (b.drop a).length < 8 then badG 4 else if 0 < KS.length ∧ getN ((b.drop a).take 8) ≤ KS.getD (KS.length - 1) 0 then badG 5 else stV (goN q) ((b.drop a).drop 8) (KS ++ [getN ((b.drop a).take 8)]) VS) = _
                        rw [if_neg HDL.out, HK.out, List.drop_drop])
                      have hev : (t : Int) % 2 = 0 := by omega
                      have hev2 : (t : Int).tmod 2 = 0 := by rw [Int.tmod_eq_emod_of_nonneg (by omega)]; exact hev
                      have hqu : (t : Int).tdiv 2 = (nk : Int) := by rw [Int.tdiv_eq_ediv_of_nonneg (by omega)]; omega
                      have hqu2 : (t : Int) / 2 = (nk : Int) := by omega
                      clear q1 q3 q4 hlt
                      rcases Nat.eq_zero_or_pos nk with hj0 | hj0
                      · have hjz : decide (0 < (t : Int)) = false := decide_eq_false (by have := Q.out; omega)
                        have hjn : decide (0 < t) = false := decide_eq_false (by have := Q.out; omega)
                        have HST := Lib.hid (show stV (goN (cnt - nk - 1)) (b.drop (a + 8)) (KS ++ [k]) VS = G by rw [HSTEP.out, if_neg (fun h => by have := KL.out; omega)])
                        clear hj0
                        go_wp2_with (at_builtin; refine print_append_num (w0 := wr) (W := wr) w3.heap.size rfl (.tmp 81) (.tmp 83) 22 25 .u64 8 rfl Try.underlying22 info64 (by omega) (.slice A1 nk c1) KS k rfl (by simp [Act.eval, Act.put]) (by rw [KL.out]; exact ST.out.ok) (Below.refl _ _) ST.out.le (by rw [KL.out]; have := HTC.out; have := Q.out; omega) ?_)
                        intro v6 w6 hown hb hg hat
                        have hown' : w6.ownsRow w3.heap.size 25 1 v6 (nk + 1) (nums .u64 (KS ++ [k])) := by
                          have h := hown
                          first | (rw [KL.out] at h) | (rw [show (KS ++ [k]).length = nk + 1 by rw [List.length_append, KL.out]; rfl] at h)
                          exact h
                        obtain ⟨A6, c6, rfl⟩ := own_slice hown'
                        have s6 := St_app_k ST.out hown' hg hat
                        obtain ⟨w7, hw7⟩ : ∃ w7, w6.setCell ⟨w1.heap.size, 1, none⟩ (.slice A6 (nk + 1) c6) = w7 := ⟨_, rfl⟩
                        have S7 := Lib.hid (St.put s6 1 (.slice A6 (nk + 1) c6) (nd' := #[.bool L, .slice A6 (nk + 1) c6, .slice A2 nk c2]) rfl)
                        rw [hw7] at S7
                        have q6 : w6.cell? ⟨w1.heap.size, 1, none⟩ = some (.slice A1 nk c1) := cell_row s6.node rfl
                        have z6 : w6.frozen? ⟨w1.heap.size, 1, none⟩ = false := blk_frozen s6.node 1
                        clear hown hown' hb hg hat s6 k1 k2
                        go_wp2_with fail
                        go_roundw
                        case rel => exact ⟨t + 1, a + 8, nk + 1, nk, A6, A2, c6, c2, KS ++ [k], VS, by go_num, by go_num, by have := HA.out; omega, by omega, by have := Q.out; omega, S7.out, Or.inr ⟨by have := Q.out; omega, rfl, Q.out.2, HST.out⟩⟩
                        case measure => simp [intOf]; omega
                      · obtain ⟨i, hi⟩ : ∃ i, nk - 1 = i := ⟨_, rfl⟩
                        have hjz : decide (0 < (t : Int)) = true := decide_eq_true (by have := Q.out; omega)
                        have hjn : decide (0 < t) = true := decide_eq_true (by have := Q.out; omega)
                        have hij : (nk : Int) - 1 = (i : Int) := by omega
                        have hiv : (i : Int) < (nk : Int) := by omega
                        obtain ⟨kd, rfl, hc2⟩ := cell_at (reads_own_of ST.out.ok KL.out rfl) i (by omega)
                        obtain ⟨z, hz⟩ : ∃ z, z = KS.getD i 0 := ⟨_, rfl⟩
                        rw [← hz] at hc2
                        by_cases hkz : k ≤ z
                        · have hb1 : decide (k ≤ z) = true := decide_eq_true hkz
                          have HT2 := Lib.hid (show takeN b = ntN 5 by rw [HT.out, HSTEP.out, if_pos ⟨by have := KL.out; omega, by rw [KL.out, hi, ← hz]; exact hkz⟩]; exact end_bad (by decide))
                          clear hz hj0 hi hkz
                          go_wp2_with ((with_reducible refine wpList_store_row rfl 24 (.tmp 2) (.tmp 79) rfl w.heap.size #[.bool false, .slice none 0 0, .slice none 0 0] ?_ ?_ 24 _ RS.out (size3 _ _ _) ?_ (one3 _ _ _ _ _ _ _) ?_); rfl; rfl; rfl)
                          refine ret_two rfl w.heap.size #[.bool false, .slice none 0 0, .slice none 0 0] (0, 0) rfl (setRow_heap _ _ _ _ _ _ RS.out) rfl rfl (nt_post HT2.out (below_setRow BL.out (Nat.le_refl _) _))
                        · have hb1 : decide (k ≤ z) = false := decide_eq_false hkz
                          have HST := Lib.hid (show stV (goN (cnt - nk - 1)) (b.drop (a + 8)) (KS ++ [k]) VS = G by rw [HSTEP.out, if_neg (fun h => hkz (by have := h.2; rw [KL.out, hi, ← hz] at this; exact this))])
                          clear hz hj0 hi hkz
                          go_wp2_with (at_builtin; refine print_append_num (w0 := wr) (W := wr) w3.heap.size rfl (.tmp 81) (.tmp 83) 22 25 .u64 8 rfl Try.underlying22 info64 (by omega) (.slice (some kd) nk c1) KS k rfl (by simp [Act.eval, Act.put]) (by rw [KL.out]; exact ST.out.ok) (Below.refl _ _) ST.out.le (by rw [KL.out]; have := HTC.out; have := Q.out; omega) ?_)
                          intro v6 w6 hown hb hg hat
                          have hown' : w6.ownsRow w3.heap.size 25 1 v6 (nk + 1) (nums .u64 (KS ++ [k])) := by
                            have h := hown
                            first | (rw [KL.out] at h) | (rw [show (KS ++ [k]).length = nk + 1 by rw [List.length_append, KL.out]; rfl] at h)
                            exact h
                          obtain ⟨A6, c6, rfl⟩ := own_slice hown'
                          have s6 := St_app_k ST.out hown' hg hat
                          obtain ⟨w7, hw7⟩ : ∃ w7, w6.setCell ⟨w1.heap.size, 1, none⟩ (.slice A6 (nk + 1) c6) = w7 := ⟨_, rfl⟩
                          have S7 := Lib.hid (St.put s6 1 (.slice A6 (nk + 1) c6) (nd' := #[.bool L, .slice A6 (nk + 1) c6, .slice A2 nk c2]) rfl)
                          rw [hw7] at S7
                          have q6 : w6.cell? ⟨w1.heap.size, 1, none⟩ = some (.slice (some kd) nk c1) := cell_row s6.node rfl
                          have z6 : w6.frozen? ⟨w1.heap.size, 1, none⟩ = false := blk_frozen s6.node 1
                          clear hown hown' hb hg hat s6 k1 k2
                          go_wp2_with fail
                          go_roundw
                          case rel => exact ⟨t + 1, a + 8, nk + 1, nk, A6, A2, c6, c2, KS ++ [k], VS, by go_num, by go_num, by have := HA.out; omega, by omega, by have := Q.out; omega, S7.out, Or.inr ⟨by have := Q.out; omega, rfl, Q.out.2, HST.out⟩⟩
                          case measure => simp [intOf]; omega
                    · have Q := Lib.hid (show t = 2 * nv + 1 ∧ nk = nv + 1 ∧ nv < cnt from ⟨q1, q2, q3⟩)
                      have HSTEP := Lib.hid (show G = if k = 0 then badG 5 else goN (cnt - (nv + 1)) (b.drop (a + 8)) KS (VS ++ [k]) by
                        rw [← q4]
                        show (if (b.drop a).length < 8 then badG 4 else if getN ((b.drop a).take 8) = 0 then badG 5 else goN (cnt - nv - 1) ((b.drop a).drop 8) KS (VS ++ [getN ((b.drop a).take 8)])) = _
                        rw [if_neg HDL.out, HK.out, List.drop_drop, show cnt - (nv + 1) = cnt - nv - 1 by omega])
                      have hev : (t : Int) % 2 = 1 := by omega
                      clear q1 q2 q3 q4 hlt
                      by_cases hk0 : k = 0
                      · have hb1 : (k == 0) = true := by simp [hk0]
                        have HT2 := Lib.hid (show takeN b = ntN 5 by rw [HT.out, HSTEP.out, if_pos hk0]; exact end_bad (by decide))
                        clear hk0
                        go_wp2_with ((with_reducible refine wpList_store_row rfl 24 (.tmp 2) (.tmp 88) rfl w.heap.size #[.bool false, .slice none 0 0, .slice none 0 0] ?_ ?_ 24 _ RS.out (size3 _ _ _) ?_ (one3 _ _ _ _ _ _ _) ?_); rfl; rfl; rfl)
                        refine ret_two rfl w.heap.size #[.bool false, .slice none 0 0, .slice none 0 0] (0, 0) rfl (setRow_heap _ _ _ _ _ _ RS.out) rfl rfl (nt_post HT2.out (below_setRow BL.out (Nat.le_refl _) _))
                      · have hb1 : (k == 0) = false := by simp [hk0]
                        have HST := Lib.hid (show goN (cnt - (nv + 1)) (b.drop (a + 8)) KS (VS ++ [k]) = G by rw [HSTEP.out, if_neg hk0])
                        clear hk0
                        go_wp2_with (at_builtin; refine print_append_num (w0 := wr) (W := wr) w3.heap.size rfl (.tmp 90) (.tmp 92) 22 25 .u64 8 rfl Try.underlying22 info64 (by omega) (.slice A2 nv c2) VS k rfl (by simp [Act.eval, Act.put]) (by rw [VL.out]; exact ST.out.ov) (Below.refl _ _) ST.out.le (by rw [VL.out]; have := HTC.out; have := Q.out; omega) ?_)
                        intro v6 w6 hown hb hg hat
                        have hown' : w6.ownsRow w3.heap.size 25 1 v6 (nv + 1) (nums .u64 (VS ++ [k])) := by
                          have h := hown
                          first | (rw [VL.out] at h) | (rw [show (VS ++ [k]).length = nv + 1 by rw [List.length_append, VL.out]; rfl] at h)
                          exact h
                        obtain ⟨A6, c6, rfl⟩ := own_slice hown'
                        have s6 := St_app_v ST.out hown' hg hat
                        obtain ⟨w7, hw7⟩ : ∃ w7, w6.setCell ⟨w1.heap.size, 2, none⟩ (.slice A6 (nv + 1) c6) = w7 := ⟨_, rfl⟩
                        have S7 := Lib.hid (St.put s6 2 (.slice A6 (nv + 1) c6) (nd' := #[.bool L, .slice A1 nk c1, .slice A6 (nv + 1) c6]) rfl)
                        rw [hw7] at S7
                        have q6 : w6.cell? ⟨w1.heap.size, 2, none⟩ = some (.slice A2 nv c2) := cell_row s6.node rfl
                        have z6 : w6.frozen? ⟨w1.heap.size, 2, none⟩ = false := blk_frozen s6.node 2
                        clear hown hown' hb hg hat s6 k1 k2
                        go_wp2_with fail
                        go_roundw
                        case rel => exact ⟨t + 1, a + 8, nk, nv + 1, A1, A6, c1, c6, KS, VS ++ [k], by go_num, by go_num, by have := HA.out; omega, by omega, by have := Q.out; omega, S7.out, Or.inl ⟨by have := Q.out; omega, Q.out.2.1, by have := Q.out; omega, HST.out⟩⟩
                        case measure => simp [intOf]; omega
                · have HG0 := Lib.hid (show G = ⟨0, KS, VS, b.drop a⟩ by
                    rcases HCS.out with ⟨q1, q2, q3, q4⟩ | ⟨q1, q2, q3, q4⟩
                    · rw [← q4, show cnt - nv = 0 by omega]; rfl
                    · omega)
                  have HTE := Lib.hid (show takeN b = if (b.drop a).all (· == 0) then ⟨0, L, KS, VS⟩ else ntN 5 by rw [HT.out, HG0.out]; simp [endN])
                  have hjd : decide ((t : Int) < 2 * (cnt : Int)) = false := decide_eq_false (by omega)
                  have RBW := Lib.hid (ReadsInt.below R0.out BL.out)
                  clear hlt
                  go_wp2_with fail
                  go_loop [9] (fun i => ∃ q : Nat, a ≤ q ∧ q ≤ n ∧ i = .int .i64 (q : Int) ∧ ((b.drop a).take (q - a)).all (· == 0) = true) (fun i => n - (intOf i).toNat)
                  case atStart => exact ⟨a, by omega, HAN.out, rfl, by simp⟩
                  case round =>
                    obtain ⟨q, hqa, hq, rfl, hall⟩ := hrel
                    have HAL := Lib.hid hall
                    clear hall hjd
                    by_cases hlt : q < n
                    · have hjv : (q : Int) < (n : Int) := by omega
                      have hjd : decide ((q : Int) < (n : Int)) = true := decide_eq_true hjv
                      obtain ⟨ad', e1, hc2⟩ := cell_at RBW.out q hlt
                      cases e1
                      obtain ⟨z, hz⟩ : ∃ z, z = b.getD q 0 := ⟨_, rfl⟩
                      rw [← hz] at hc2
                      have hbl : q < b.length := by have := LB.out; omega
                      have hdl : q - a < (b.drop a).length := by rw [List.length_drop]; omega
                      have HZ := Lib.hid (show (b.drop a)[q - a]'hdl = z by
                        rw [List.getElem_drop, hz, List.getD_eq_getElem?_getD]
                        simp only [show a + (q - a) = q by omega]
                        rw [List.getElem?_eq_getElem hbl]; rfl)
                      by_cases hz0 : z = 0
                      · have hb1 : (z == 0) = true := by simp [hz0]
                        have hb2 : (z != 0) = false := by simp [hz0]
                        have HN := Lib.hid (show ((b.drop a).take (q + 1 - a)).all (· == 0) = true by
                          rw [show q + 1 - a = (q - a) + 1 by omega, List.take_succ_eq_append_getElem hdl, List.all_append, HAL.out, HZ.out]; simp [hz0])
                        have HQA := Lib.hid hqa
                        clear hz hz0 HZ hdl hbl hqa hq
                        go_wp2_with fail
                        go_round
                        case rel => exact ⟨q + 1, by have := HQA.out; omega, by omega, by go_num, HN.out⟩
                        case measure => simp [intOf]; omega
                      · have hb1 : (z == 0) = false := by simp [hz0]
                        have hb2 : (z != 0) = true := by simp [hz0]
                        have HT2 := Lib.hid (show takeN b = ntN 5 by
                          rw [HTE.out, if_neg]
                          intro h
                          rw [List.all_eq_true] at h
                          have := h ((b.drop a)[q - a]'hdl) (List.getElem_mem _)
                          rw [HZ.out] at this
                          exact hz0 (by simpa using this))
                        clear hz hz0 HZ hdl hbl hqa hq hlt
                        go_wp2_with ((with_reducible refine wpList_store_row rfl 24 (.tmp 2) (.tmp 107) rfl w.heap.size #[.bool false, .slice none 0 0, .slice none 0 0] ?_ ?_ 24 _ RS.out (size3 _ _ _) ?_ (one3 _ _ _ _ _ _ _) ?_); rfl; rfl; rfl)
                        refine ret_two rfl w.heap.size #[.bool false, .slice none 0 0, .slice none 0 0] (0, 0) rfl (setRow_heap _ _ _ _ _ _ RS.out) rfl rfl (nt_post HT2.out (below_setRow BL.out (Nat.le_refl _) _))
                    · obtain rfl : q = n := by omega
                      have HT2 := Lib.hid (show takeN b = ⟨0, L, KS, VS⟩ by rw [HTE.out, if_pos]; have := HAL.out; rwa [List.take_of_length_le (by rw [List.length_drop, LB.out]; omega)] at this)
                      have hjd : decide ((q : Int) < (q : Int)) = false := by simp
                      clear hq hlt hqa
                      go_wp2_with (first | ((with_reducible refine wpList_load_row rfl 24 (.tmp 5) rfl w1.heap.size ?_ 24 _ _ _ ST.out.node Try.underlying24 ?_ (size3 _ _ _) ?_); rfl; rfl) | ((with_reducible refine wpList_store_row rfl 24 (.tmp 2) (.tmp 108) rfl w.heap.size #[.bool L, .slice A1 nk c1, .slice A2 nv c2] ?_ ?_ 24 _ RS.out (size3 _ _ _) ?_ (one3 _ _ _ _ _ _ _) ?_); rfl; rfl; rfl))
                      refine ret_two rfl w.heap.size #[.bool L, .slice A1 nk c1, .slice A2 nv c2] (0, 0) rfl (setRow_heap _ _ _ _ _ _ RS.out) rfl rfl ?_
                      rw [HT2.out]
                      show ∃ A1 c1 A2 c2, _ = Ending.returned (.tuple #[.agg #[.bool L, .slice A1 KS.length c1, .slice A2 VS.length c2], .int .i64 0]) ∧ _
                      rw [KL.out, VL.out]
                      have hle : w.heap.size ≤ w3.heap.size := by have := SZ.out; omega
                      have hlt4 : w.heap.size < w3.heap.size := by have := SZ.out; omega
                      exact ⟨A1, c1, A2, c2, rfl, own_weaken (own_setRow ST.out.ok (own_ne ST.out.ok hlt4) _) hle, own_weaken (own_setRow ST.out.ov (own_ne ST.out.ov hlt4) _) hle, ST.out.sep, below_setRow BL.out (Nat.le_refl _) _⟩
      · have d2' := d2 rfl
        clear d2
        by_cases h2 : n = 1
        · have d3 : ((n : Int) == 1) = true := by simp [h2]
          have HT := Lib.hid (show takeN b = ntN 4 by unfold takeN; rw [if_neg (by have := LB.out; have := H0.out; omega), if_neg (by rw [← HX0.out]; exact H1.out), if_pos (by have := LB.out; omega)])
          clear h2
          go_wp2_with ((with_reducible refine wpList_store_row rfl 24 (.tmp 2) (.tmp 28) rfl w.heap.size #[.bool false, .slice none 0 0, .slice none 0 0] ?_ ?_ 24 _ RES1.out (size3 _ _ _) ?_ (one3 _ _ _ _ _ _ _) ?_); rfl; rfl; rfl)
          refine ret_two rfl w.heap.size #[.bool false, .slice none 0 0, .slice none 0 0] (0, 0) rfl (setRow_heap _ _ _ _ _ _ RES1.out) rfl rfl (nt_post HT.out (below_setRow B1.out (Nat.le_refl _) _))
        · have d3 : ((n : Int) == 1) = false := by simp; omega
          have hi1 : (1 : Int) < (n : Int) := by have := H0.out; omega
          obtain ⟨ad', e1, hc1⟩ := cell_at R1.out 1 (by omega)
          cases e1
          obtain ⟨x1, hx1⟩ : ∃ x, x = b.getD 1 0 := ⟨_, rfl⟩
          rw [← hx1] at hc1
          have hc1' : w1.cell? ⟨ad.block, ad.off + 1, none⟩ = some (.int .u8 x1) := by simpa [Addr.add] using hc1
          have h10 : 0 ≤ x1 ∧ x1 < 256 := by
            rw [hx1, List.getD_eq_getElem?_getD, List.getElem?_eq_getElem (show 1 < b.length by have := LB.out; omega)]
            exact le_of_wf8 (HW.out _ (List.getElem_mem _))
          have HX1 := Lib.hid hx1
          have H2 := Lib.hid h2
          clear hc1 hx1 h2
          obtain ⟨cnt, rfl⟩ : ∃ k : Nat, x1 = (k : Int) := ⟨x1.toNat, by omega⟩
          have hcb : (cnt : Int) < 256 := h10.2
          by_cases h3 : cnt = 0
          · have d4 : ((cnt : Int) == 0) = true := by simp [h3]
            have HT := Lib.hid (show takeN b = ntN 5 by unfold takeN; rw [if_neg (by have := LB.out; have := H0.out; omega), if_neg (by rw [← HX0.out]; exact H1.out), if_neg (by have := LB.out; have := H2.out; have := H0.out; omega), if_pos (Or.inl (by rw [← HX1.out]; omega))])
            clear h3 h10
            go_wp2_with ((with_reducible refine wpList_store_row rfl 24 (.tmp 2) (.tmp 39) rfl w.heap.size #[.bool false, .slice none 0 0, .slice none 0 0] ?_ ?_ 24 _ RES1.out (size3 _ _ _) ?_ (one3 _ _ _ _ _ _ _) ?_); rfl; rfl; rfl)
            refine ret_two rfl w.heap.size #[.bool false, .slice none 0 0, .slice none 0 0] (0, 0) rfl (setRow_heap _ _ _ _ _ _ RES1.out) rfl rfl (nt_post HT.out (below_setRow B1.out (Nat.le_refl _) _))
          · have d4 : ((cnt : Int) == 0) = false := by simp [h3]
            by_cases h4 : 8 < cnt
            · have d5 : decide (8 < (cnt : Int)) = true := decide_eq_true (by omega)
              have HT := Lib.hid (show takeN b = ntN 5 by unfold takeN; rw [if_neg (by have := LB.out; have := H0.out; omega), if_neg (by rw [← HX0.out]; exact H1.out), if_neg (by have := LB.out; have := H2.out; have := H0.out; omega), if_pos (Or.inr (by rw [← HX1.out]; omega))])
              clear h3 h4 h10
              go_wp2_with ((with_reducible refine wpList_store_row rfl 24 (.tmp 2) (.tmp 39) rfl w.heap.size #[.bool false, .slice none 0 0, .slice none 0 0] ?_ ?_ 24 _ RES1.out (size3 _ _ _) ?_ (one3 _ _ _ _ _ _ _) ?_); rfl; rfl; rfl)
              refine ret_two rfl w.heap.size #[.bool false, .slice none 0 0, .slice none 0 0] (0, 0) rfl (setRow_heap _ _ _ _ _ _ RES1.out) rfl rfl (nt_post HT.out (below_setRow B1.out (Nat.le_refl _) _))
            · have d5 : decide (8 < (cnt : Int)) = false := decide_eq_false (by omega)
              have hn8 : (cnt : Int) ≤ 8 := by omega
              obtain ⟨L, hL⟩ : ∃ L, (x0 == 1) = L := ⟨_, rfl⟩
              obtain ⟨G, hG⟩ : ∃ G, goN cnt (b.drop 2) [] [] = G := ⟨_, rfl⟩
              have HT := Lib.hid (show takeN b = endN L G from take_end (by have := LB.out; have := H2.out; have := H0.out; omega) HX0.out H1.out HX1.out (by omega) hL rfl hG)
              have HG := Lib.hid hG
              obtain ⟨w2, hw2, b2, f2, s2⟩ := made w1 #[.bool false, .slice none 0 0, .slice none 0 0] 24
              obtain ⟨w3, hw3⟩ : ∃ w3, w2.setRow w1.heap.size #[.bool L, .slice none 0 0, .slice none 0 0] = w3 := ⟨_, rfl⟩
              have f3 : w3.heap[w1.heap.size]? = some (.cells #[.bool L, .slice none 0 0, .slice none 0 0] 24) := by rw [← hw3]; exact setRow_heap _ _ _ _ _ _ f2
              have r3 : w3.heap[w.heap.size]? = some (.cells #[.bool false, .slice none 0 0, .slice none 0 0] 24) := by rw [← hw3, setRow_other _ _ _ _ (by omega)]; exact keep_row RES1.out b2
              have b3 : Below w.heap.size w w3 := by rw [← hw3]; exact below_setRow (below_then B1.out B1.out.size b2) (by omega) _
              have s3 : w3.heap.size = w2.heap.size := by rw [← hw3]; simp [World.setRow]
              have ST3 := Lib.hid (show St w w3.heap.size w1.heap.size 24 25 #[.bool L, .slice none 0 0, .slice none 0 0] [(w.heap.size, .cells #[.bool false, .slice none 0 0, .slice none 0 0] 24)] (.slice none 0 0) (.slice none 0 0) 0 0 [] [] w3 from
                ⟨own_nil _ _ _ _, own_nil _ _ _ _, fun p hp => by simp [Value.ownBlock] at hp, f3, fun p hp => by
                  obtain rfl := List.mem_singleton.1 hp
                  exact ⟨r3, by show w.heap.size < w3.heap.size; omega, by show w.heap.size ≠ w1.heap.size; omega⟩, b3, by omega, Nat.le_refl _, by omega⟩)
              have SZ := Lib.hid (show w1.heap.size = w.heap.size + 1 ∧ w3.heap.size = w.heap.size + 2 by omega)
              have F2 := Lib.hid f2
              have HN2 := Lib.hid (show 2 ≤ n by omega)
              clear s1 b2 f2 s2 f3 r3 b3 s3 hG h3 h4 h10
              go_wp2_with (first | ((with_reducible refine wpList_store_row rfl 24 (.tmp 5) (.tmp 44) rfl w1.heap.size #[.bool L, .slice none 0 0, .slice none 0 0] ?_ ?_ 24 _ F2.out (size3 _ _ _) ?_ (one3 _ _ _ _ _ _ _) ?_); rfl; rfl; rfl; rw [hw3]) | fail)
              go_loopw [6, 7] (fun at_ i wr => ∃ (t a nk nv : Nat) (A1 A2 : Option Addr) (c1 c2 : Nat) (KS VS : List Int), i = .int .i64 (t : Int) ∧ at_ = .int .i64 (a : Int) ∧ a = 2 + 8 * t ∧ a ≤ n ∧ t ≤ 2 * cnt ∧
                St w w3.heap.size w1.heap.size 24 25 #[.bool L, .slice A1 nk c1, .slice A2 nv c2] [(w.heap.size, .cells #[.bool false, .slice none 0 0, .slice none 0 0] 24)] (.slice A1 nk c1) (.slice A2 nv c2) nk nv KS VS wr ∧
                ((t = 2 * nv ∧ nk = nv ∧ nv ≤ cnt ∧ goN (cnt - nv) (b.drop a) KS VS = G) ∨ (t = 2 * nv + 1 ∧ nk = nv + 1 ∧ nv < cnt ∧ stV (goN (cnt - nv - 1)) (b.drop a) KS VS = G))) (fun _ i _ => 2 * cnt - (intOf i).toNat)
              case atStart => exact ⟨0, 2, 0, 0, none, none, 0, 0, [], [], rfl, rfl, rfl, HN2.out, by omega, ST3.out, Or.inl ⟨rfl, rfl, by omega, HG.out⟩⟩
              case round =>
                obtain ⟨t, a, nk, nv, A1, A2, c1, c2, KS, VS, rfl, rfl, ha, han, htc, hst, hcase⟩ := hrel
                have ST := Lib.hid hst
                have BL := Lib.hid hst.bel
                have RS := Lib.hid (show wr.heap[w.heap.size]? = some (.cells #[.bool false, .slice none 0 0, .slice none 0 0] 24) from (hst.rows _ (List.mem_singleton.2 rfl)).1)
                have KL := Lib.hid (show KS.length = nk by have := hst.ok.1; simpa [nums] using this)
                have VL := Lib.hid (show VS.length = nv by have := hst.ov.1; simpa [nums] using this)
                have HA := Lib.hid ha
                have HCS := Lib.hid hcase
                have HTC := Lib.hid htc
                have hai : (a : Int) ≤ (n : Int) := by omega
                have htb : (t : Int) ≤ 16 := by omega
                have HAN := Lib.hid han
                clear hst ha hcase hc0' hc1' ST3 HG hi0 hi1 d1 d2' d3 d4 d5 ht0 htc han
                by_cases hlt : t < 2 * cnt
                · have hjv : (t : Int) < 2 * (cnt : Int) := by omega
                  have hjd : decide ((t : Int) < 2 * (cnt : Int)) = true := decide_eq_true hjv
                  by_cases hm : n < a + 8
                  · have hmd : decide ((n : Int) - (a : Int) < 8) = true := decide_eq_true (by omega)
                    have HT2 := Lib.hid (show takeN b = ntN 4 by
                      rw [HT.out]
                      rcases HCS.out with ⟨q1, q2, q3, q4⟩ | ⟨q1, q2, q3, q4⟩
                      · rw [← q4, show cnt - nv = (cnt - nv - 1) + 1 by omega]; unfold goN; rw [if_pos (by rw [List.length_drop, LB.out]; omega)]; exact end_bad (by decide)
                      · rw [← q4]; unfold stV; rw [if_pos (by rw [List.length_drop, LB.out]; omega)]; exact end_bad (by decide))
                    clear hm hlt
                    go_wp2_with ((with_reducible refine wpList_store_row rfl 24 (.tmp 2) (.tmp 56) rfl w.heap.size #[.bool false, .slice none 0 0, .slice none 0 0] ?_ ?_ 24 _ RS.out (size3 _ _ _) ?_ (one3 _ _ _ _ _ _ _) ?_); rfl; rfl; rfl)
                    refine ret_two rfl w.heap.size #[.bool false, .slice none 0 0, .slice none 0 0] (0, 0) rfl (setRow_heap _ _ _ _ _ _ RS.out) rfl rfl (nt_post HT2.out (below_setRow BL.out (Nat.le_refl _) _))
                  · have hmd : decide ((n : Int) - (a : Int) < 8) = false := decide_eq_false (by omega)
                    have HM := Lib.hid hm
                    obtain ⟨i0, hi0', hs0⟩ := info8'
                    obtain ⟨A3, hA3, hr3⟩ := print_cut (P := Try.prog) 41 5 .i64 Try.underlying41 hi0' hs0 (some ad) n c a HAN.out
                    have RC := Lib.hid (ReadsInt.below (hr3 _ _ _ hc R0.out) BL.out)
                    clear hr3 hi0' hs0 i0 hm
                    go_wp2_with fail
                    refine (rnum_any (b.drop a) A3 (n - a) (c - a) _ RC.out (fun x hx => HW.out x (List.mem_of_mem_drop hx)) (by have := HM.out; omega)).mono ?_; rintro e w5 ⟨rfl, rfl⟩
                    obtain ⟨k, hk⟩ : ∃ k, getN ((b.drop a).take 8) = k := ⟨_, rfl⟩
                    rw [hk]
                    have HK := Lib.hid hk
                    have HDL := Lib.hid (show ¬ (b.drop a).length < 8 by rw [List.length_drop, LB.out]; have := HM.out; omega)
                    have k1 : wr.cell? ⟨w1.heap.size, 1, none⟩ = some (.slice A1 nk c1) := cell_row ST.out.node rfl
                    have k2 : wr.cell? ⟨w1.heap.size, 2, none⟩ = some (.slice A2 nv c2) := cell_row ST.out.node rfl
                    have ha8 : (a : Int) + 8 ≤ (n : Int) := by have := HM.out; omega
                    clear hA3 hk
                    rcases HCS.out with ⟨q1, q2, q3, q4⟩ | ⟨q1, q2, q3, q4⟩
                    · subst q2
                      have Q := Lib.hid (show t = 2 * nk ∧ nk < cnt by omega)
                      have HSTEP := Lib.hid (show G = if 0 < KS.length ∧ k ≤ KS.getD (KS.length - 1) 0 then badG 5 else stV (goN (cnt - nk - 1)) (b.drop (a + 8)) (KS ++ [k]) VS by
                        obtain ⟨q, hq⟩ : ∃ q, cnt - nk = q + 1 := ⟨cnt - nk - 1, by have := Q.out; omega⟩
                        rw [← q4, hq, show q + 1 - 1 = q by omega]
                        show (if (b.drop a).length < 8 then badG 4 else if 0 < KS.length ∧ getN ((b.drop a).take 8) ≤ KS.getD (KS.length - 1) 0 then badG 5 else stV (goN q) ((b.drop a).drop 8) (KS ++ [getN ((b.drop a).take 8)]) VS) = _
                        rw [if_neg HDL.out, HK.out, List.drop_drop])
                      have hev : (t : Int) % 2 = 0 := by omega
                      have hev2 : (t : Int).tmod 2 = 0 := by rw [Int.tmod_eq_emod_of_nonneg (by omega)]; exact hev
                      have hqu : (t : Int).tdiv 2 = (nk : Int) := by rw [Int.tdiv_eq_ediv_of_nonneg (by omega)]; omega
                      have hqu2 : (t : Int) / 2 = (nk : Int) := by omega
                      clear q1 q3 q4 hlt
                      rcases Nat.eq_zero_or_pos nk with hj0 | hj0
                      · have hjz : decide (0 < (t : Int)) = false := decide_eq_false (by have := Q.out; omega)
                        have hjn : decide (0 < t) = false := decide_eq_false (by have := Q.out; omega)
                        have HST := Lib.hid (show stV (goN (cnt - nk - 1)) (b.drop (a + 8)) (KS ++ [k]) VS = G by rw [HSTEP.out, if_neg (fun h => by have := KL.out; omega)])
                        clear hj0
                        go_wp2_with (at_builtin; refine print_append_num (w0 := wr) (W := wr) w3.heap.size rfl (.tmp 81) (.tmp 83) 22 25 .u64 8 rfl Try.underlying22 info64 (by omega) (.slice A1 nk c1) KS k rfl (by simp [Act.eval, Act.put]) (by rw [KL.out]; exact ST.out.ok) (Below.refl _ _) ST.out.le (by rw [KL.out]; have := HTC.out; have := Q.out; omega) ?_)
                        intro v6 w6 hown hb hg hat
                        have hown' : w6.ownsRow w3.heap.size 25 1 v6 (nk + 1) (nums .u64 (KS ++ [k])) := by
                          have h := hown
                          first | (rw [KL.out] at h) | (rw [show (KS ++ [k]).length = nk + 1 by rw [List.length_append, KL.out]; rfl] at h)
                          exact h
                        obtain ⟨A6, c6, rfl⟩ := own_slice hown'
                        have s6 := St_app_k ST.out hown' hg hat
                        obtain ⟨w7, hw7⟩ : ∃ w7, w6.setCell ⟨w1.heap.size, 1, none⟩ (.slice A6 (nk + 1) c6) = w7 := ⟨_, rfl⟩
                        have S7 := Lib.hid (St.put s6 1 (.slice A6 (nk + 1) c6) (nd' := #[.bool L, .slice A6 (nk + 1) c6, .slice A2 nk c2]) rfl)
                        rw [hw7] at S7
                        have q6 : w6.cell? ⟨w1.heap.size, 1, none⟩ = some (.slice A1 nk c1) := cell_row s6.node rfl
                        have z6 : w6.frozen? ⟨w1.heap.size, 1, none⟩ = false := blk_frozen s6.node 1
                        clear hown hown' hb hg hat s6 k1 k2
                        go_wp2_with fail
                        go_roundw
                        case rel => exact ⟨t + 1, a + 8, nk + 1, nk, A6, A2, c6, c2, KS ++ [k], VS, by go_num, by go_num, by have := HA.out; omega, by omega, by have := Q.out; omega, S7.out, Or.inr ⟨by have := Q.out; omega, rfl, Q.out.2, HST.out⟩⟩
                        case measure => simp [intOf]; omega
                      · obtain ⟨i, hi⟩ : ∃ i, nk - 1 = i := ⟨_, rfl⟩
                        have hjz : decide (0 < (t : Int)) = true := decide_eq_true (by have := Q.out; omega)
                        have hjn : decide (0 < t) = true := decide_eq_true (by have := Q.out; omega)
                        have hij : (nk : Int) - 1 = (i : Int) := by omega
                        have hiv : (i : Int) < (nk : Int) := by omega
                        obtain ⟨kd, rfl, hc2⟩ := cell_at (reads_own_of ST.out.ok KL.out rfl) i (by omega)
                        obtain ⟨z, hz⟩ : ∃ z, z = KS.getD i 0 := ⟨_, rfl⟩
                        rw [← hz] at hc2
                        by_cases hkz : k ≤ z
                        · have hb1 : decide (k ≤ z) = true := decide_eq_true hkz
                          have HT2 := Lib.hid (show takeN b = ntN 5 by rw [HT.out, HSTEP.out, if_pos ⟨by have := KL.out; omega, by rw [KL.out, hi, ← hz]; exact hkz⟩]; exact end_bad (by decide))
                          clear hz hj0 hi hkz
                          go_wp2_with ((with_reducible refine wpList_store_row rfl 24 (.tmp 2) (.tmp 79) rfl w.heap.size #[.bool false, .slice none 0 0, .slice none 0 0] ?_ ?_ 24 _ RS.out (size3 _ _ _) ?_ (one3 _ _ _ _ _ _ _) ?_); rfl; rfl; rfl)
                          refine ret_two rfl w.heap.size #[.bool false, .slice none 0 0, .slice none 0 0] (0, 0) rfl (setRow_heap _ _ _ _ _ _ RS.out) rfl rfl (nt_post HT2.out (below_setRow BL.out (Nat.le_refl _) _))
                        · have hb1 : decide (k ≤ z) = false := decide_eq_false hkz
                          have HST := Lib.hid (show stV (goN (cnt - nk - 1)) (b.drop (a + 8)) (KS ++ [k]) VS = G by rw [HSTEP.out, if_neg (fun h => hkz (by have := h.2; rw [KL.out, hi, ← hz] at this; exact this))])
                          clear hz hj0 hi hkz
                          go_wp2_with (at_builtin; refine print_append_num (w0 := wr) (W := wr) w3.heap.size rfl (.tmp 81) (.tmp 83) 22 25 .u64 8 rfl Try.underlying22 info64 (by omega) (.slice (some kd) nk c1) KS k rfl (by simp [Act.eval, Act.put]) (by rw [KL.out]; exact ST.out.ok) (Below.refl _ _) ST.out.le (by rw [KL.out]; have := HTC.out; have := Q.out; omega) ?_)
                          intro v6 w6 hown hb hg hat
                          have hown' : w6.ownsRow w3.heap.size 25 1 v6 (nk + 1) (nums .u64 (KS ++ [k])) := by
                            have h := hown
                            first | (rw [KL.out] at h) | (rw [show (KS ++ [k]).length = nk + 1 by rw [List.length_append, KL.out]; rfl] at h)
                            exact h
                          obtain ⟨A6, c6, rfl⟩ := own_slice hown'
                          have s6 := St_app_k ST.out hown' hg hat
                          obtain ⟨w7, hw7⟩ : ∃ w7, w6.setCell ⟨w1.heap.size, 1, none⟩ (.slice A6 (nk + 1) c6) = w7 := ⟨_, rfl⟩
                          have S7 := Lib.hid (St.put s6 1 (.slice A6 (nk + 1) c6) (nd' := #[.bool L, .slice A6 (nk + 1) c6, .slice A2 nk c2]) rfl)
                          rw [hw7] at S7
                          have q6 : w6.cell? ⟨w1.heap.size, 1, none⟩ = some (.slice (some kd) nk c1) := cell_row s6.node rfl
                          have z6 : w6.frozen? ⟨w1.heap.size, 1, none⟩ = false := blk_frozen s6.node 1
                          clear hown hown' hb hg hat s6 k1 k2
                          go_wp2_with fail
                          go_roundw
                          case rel => exact ⟨t + 1, a + 8, nk + 1, nk, A6, A2, c6, c2, KS ++ [k], VS, by go_num, by go_num, by have := HA.out; omega, by omega, by have := Q.out; omega, S7.out, Or.inr ⟨by have := Q.out; omega, rfl, Q.out.2, HST.out⟩⟩
                          case measure => simp [intOf]; omega
                    · have Q := Lib.hid (show t = 2 * nv + 1 ∧ nk = nv + 1 ∧ nv < cnt from ⟨q1, q2, q3⟩)
                      have HSTEP := Lib.hid (show G = if k = 0 then badG 5 else goN (cnt - (nv + 1)) (b.drop (a + 8)) KS (VS ++ [k]) by
                        rw [← q4]
                        show (if (b.drop a).length < 8 then badG 4 else if getN ((b.drop a).take 8) = 0 then badG 5 else goN (cnt - nv - 1) ((b.drop a).drop 8) KS (VS ++ [getN ((b.drop a).take 8)])) = _
                        rw [if_neg HDL.out, HK.out, List.drop_drop, show cnt - (nv + 1) = cnt - nv - 1 by omega])
                      have hev : (t : Int) % 2 = 1 := by omega
                      clear q1 q2 q3 q4 hlt
                      by_cases hk0 : k = 0
                      · have hb1 : (k == 0) = true := by simp [hk0]
                        have HT2 := Lib.hid (show takeN b = ntN 5 by rw [HT.out, HSTEP.out, if_pos hk0]; exact end_bad (by decide))
                        clear hk0
                        go_wp2_with ((with_reducible refine wpList_store_row rfl 24 (.tmp 2) (.tmp 88) rfl w.heap.size #[.bool false, .slice none 0 0, .slice none 0 0] ?_ ?_ 24 _ RS.out (size3 _ _ _) ?_ (one3 _ _ _ _ _ _ _) ?_); rfl; rfl; rfl)
                        refine ret_two rfl w.heap.size #[.bool false, .slice none 0 0, .slice none 0 0] (0, 0) rfl (setRow_heap _ _ _ _ _ _ RS.out) rfl rfl (nt_post HT2.out (below_setRow BL.out (Nat.le_refl _) _))
                      · have hb1 : (k == 0) = false := by simp [hk0]
                        have HST := Lib.hid (show goN (cnt - (nv + 1)) (b.drop (a + 8)) KS (VS ++ [k]) = G by rw [HSTEP.out, if_neg hk0])
                        clear hk0
                        go_wp2_with (at_builtin; refine print_append_num (w0 := wr) (W := wr) w3.heap.size rfl (.tmp 90) (.tmp 92) 22 25 .u64 8 rfl Try.underlying22 info64 (by omega) (.slice A2 nv c2) VS k rfl (by simp [Act.eval, Act.put]) (by rw [VL.out]; exact ST.out.ov) (Below.refl _ _) ST.out.le (by rw [VL.out]; have := HTC.out; have := Q.out; omega) ?_)
                        intro v6 w6 hown hb hg hat
                        have hown' : w6.ownsRow w3.heap.size 25 1 v6 (nv + 1) (nums .u64 (VS ++ [k])) := by
                          have h := hown
                          first | (rw [VL.out] at h) | (rw [show (VS ++ [k]).length = nv + 1 by rw [List.length_append, VL.out]; rfl] at h)
                          exact h
                        obtain ⟨A6, c6, rfl⟩ := own_slice hown'
                        have s6 := St_app_v ST.out hown' hg hat
                        obtain ⟨w7, hw7⟩ : ∃ w7, w6.setCell ⟨w1.heap.size, 2, none⟩ (.slice A6 (nv + 1) c6) = w7 := ⟨_, rfl⟩
                        have S7 := Lib.hid (St.put s6 2 (.slice A6 (nv + 1) c6) (nd' := #[.bool L, .slice A1 nk c1, .slice A6 (nv + 1) c6]) rfl)
                        rw [hw7] at S7
                        have q6 : w6.cell? ⟨w1.heap.size, 2, none⟩ = some (.slice A2 nv c2) := cell_row s6.node rfl
                        have z6 : w6.frozen? ⟨w1.heap.size, 2, none⟩ = false := blk_frozen s6.node 2
                        clear hown hown' hb hg hat s6 k1 k2
                        go_wp2_with fail
                        go_roundw
                        case rel => exact ⟨t + 1, a + 8, nk, nv + 1, A1, A6, c1, c6, KS, VS ++ [k], by go_num, by go_num, by have := HA.out; omega, by omega, by have := Q.out; omega, S7.out, Or.inl ⟨by have := Q.out; omega, Q.out.2.1, by have := Q.out; omega, HST.out⟩⟩
                        case measure => simp [intOf]; omega
                · have HG0 := Lib.hid (show G = ⟨0, KS, VS, b.drop a⟩ by
                    rcases HCS.out with ⟨q1, q2, q3, q4⟩ | ⟨q1, q2, q3, q4⟩
                    · rw [← q4, show cnt - nv = 0 by omega]; rfl
                    · omega)
                  have HTE := Lib.hid (show takeN b = if (b.drop a).all (· == 0) then ⟨0, L, KS, VS⟩ else ntN 5 by rw [HT.out, HG0.out]; simp [endN])
                  have hjd : decide ((t : Int) < 2 * (cnt : Int)) = false := decide_eq_false (by omega)
                  have RBW := Lib.hid (ReadsInt.below R0.out BL.out)
                  clear hlt
                  go_wp2_with fail
                  go_loop [9] (fun i => ∃ q : Nat, a ≤ q ∧ q ≤ n ∧ i = .int .i64 (q : Int) ∧ ((b.drop a).take (q - a)).all (· == 0) = true) (fun i => n - (intOf i).toNat)
                  case atStart => exact ⟨a, by omega, HAN.out, rfl, by simp⟩
                  case round =>
                    obtain ⟨q, hqa, hq, rfl, hall⟩ := hrel
                    have HAL := Lib.hid hall
                    clear hall hjd
                    by_cases hlt : q < n
                    · have hjv : (q : Int) < (n : Int) := by omega
                      have hjd : decide ((q : Int) < (n : Int)) = true := decide_eq_true hjv
                      obtain ⟨ad', e1, hc2⟩ := cell_at RBW.out q hlt
                      cases e1
                      obtain ⟨z, hz⟩ : ∃ z, z = b.getD q 0 := ⟨_, rfl⟩
                      rw [← hz] at hc2
                      have hbl : q < b.length := by have := LB.out; omega
                      have hdl : q - a < (b.drop a).length := by rw [List.length_drop]; omega
                      have HZ := Lib.hid (show (b.drop a)[q - a]'hdl = z by
                        rw [List.getElem_drop, hz, List.getD_eq_getElem?_getD]
                        simp only [show a + (q - a) = q by omega]
                        rw [List.getElem?_eq_getElem hbl]; rfl)
                      by_cases hz0 : z = 0
                      · have hb1 : (z == 0) = true := by simp [hz0]
                        have hb2 : (z != 0) = false := by simp [hz0]
                        have HN := Lib.hid (show ((b.drop a).take (q + 1 - a)).all (· == 0) = true by
                          rw [show q + 1 - a = (q - a) + 1 by omega, List.take_succ_eq_append_getElem hdl, List.all_append, HAL.out, HZ.out]; simp [hz0])
                        have HQA := Lib.hid hqa
                        clear hz hz0 HZ hdl hbl hqa hq
                        go_wp2_with fail
                        go_round
                        case rel => exact ⟨q + 1, by have := HQA.out; omega, by omega, by go_num, HN.out⟩
                        case measure => simp [intOf]; omega
                      · have hb1 : (z == 0) = false := by simp [hz0]
                        have hb2 : (z != 0) = true := by simp [hz0]
                        have HT2 := Lib.hid (show takeN b = ntN 5 by
                          rw [HTE.out, if_neg]
                          intro h
                          rw [List.all_eq_true] at h
                          have := h ((b.drop a)[q - a]'hdl) (List.getElem_mem _)
                          rw [HZ.out] at this
                          exact hz0 (by simpa using this))
                        clear hz hz0 HZ hdl hbl hqa hq hlt
                        go_wp2_with ((with_reducible refine wpList_store_row rfl 24 (.tmp 2) (.tmp 107) rfl w.heap.size #[.bool false, .slice none 0 0, .slice none 0 0] ?_ ?_ 24 _ RS.out (size3 _ _ _) ?_ (one3 _ _ _ _ _ _ _) ?_); rfl; rfl; rfl)
                        refine ret_two rfl w.heap.size #[.bool false, .slice none 0 0, .slice none 0 0] (0, 0) rfl (setRow_heap _ _ _ _ _ _ RS.out) rfl rfl (nt_post HT2.out (below_setRow BL.out (Nat.le_refl _) _))
                    · obtain rfl : q = n := by omega
                      have HT2 := Lib.hid (show takeN b = ⟨0, L, KS, VS⟩ by rw [HTE.out, if_pos]; have := HAL.out; rwa [List.take_of_length_le (by rw [List.length_drop, LB.out]; omega)] at this)
                      have hjd : decide ((q : Int) < (q : Int)) = false := by simp
                      clear hq hlt hqa
                      go_wp2_with (first | ((with_reducible refine wpList_load_row rfl 24 (.tmp 5) rfl w1.heap.size ?_ 24 _ _ _ ST.out.node Try.underlying24 ?_ (size3 _ _ _) ?_); rfl; rfl) | ((with_reducible refine wpList_store_row rfl 24 (.tmp 2) (.tmp 108) rfl w.heap.size #[.bool L, .slice A1 nk c1, .slice A2 nv c2] ?_ ?_ 24 _ RS.out (size3 _ _ _) ?_ (one3 _ _ _ _ _ _ _) ?_); rfl; rfl; rfl))
                      refine ret_two rfl w.heap.size #[.bool L, .slice A1 nk c1, .slice A2 nv c2] (0, 0) rfl (setRow_heap _ _ _ _ _ _ RS.out) rfl rfl ?_
                      rw [HT2.out]
                      show ∃ A1 c1 A2 c2, _ = Ending.returned (.tuple #[.agg #[.bool L, .slice A1 KS.length c1, .slice A2 VS.length c2], .int .i64 0]) ∧ _
                      rw [KL.out, VL.out]
                      have hle : w.heap.size ≤ w3.heap.size := by have := SZ.out; omega
                      have hlt4 : w.heap.size < w3.heap.size := by have := SZ.out; omega
                      exact ⟨A1, c1, A2, c2, rfl, own_weaken (own_setRow ST.out.ok (own_ne ST.out.ok hlt4) _) hle, own_weaken (own_setRow ST.out.ov (own_ne ST.out.ov hlt4) _) hle, ST.out.sep, below_setRow BL.out (Nat.le_refl _) _⟩
end Go.Proofs.Ytdekplalhfpooaa.Nod
