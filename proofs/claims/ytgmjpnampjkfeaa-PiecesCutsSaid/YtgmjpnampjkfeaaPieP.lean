/- Pieces: the document's Cut, byte by byte, by its contract (every input). -/
import Derived.BigQuiet
import Derived.Test.YtgmjpnampjkfeaaPieO
import Derived.Test.YtgmjpnampjkfeaaPieL
set_option linter.unusedVariables false
set_option linter.unusedSimpArgs false
namespace Go.Proofs.Ytgmjpnampjkfeaa.Pie
open Go Go.RowKit Go.Proofs.YtgmjpnampjkfeaaW.PrintWords Go.Proofs.YtgmjpnampjkfeaaW.PrintLast Go.Proofs.YtgmjpnampjkfeaaW.PrintMore Base

/-- One more byte begins a piece. -/
theorem byte_new {O i : Nat} (h : ¬ jS O (i + 1) i) : cntP O (i + 1) = cntP O i + 1 ∧ cutC O i (cntP O i) = cutC O (i + 1) (cntP O i) ∧
    pcell O (i + 1) (cntP O i) = [.int .u64 (((O + i) / 256 : Nat) : Int), .int .i64 (((O + i) % 256 : Nat) : Int), .int .i64 (((O + i) % 256 + 1 : Nat) : Int), .int .i64 (i : Int)] := by
  have hn := join_next (O := O) (N := i + 1) (k := i) (i := 0) (by omega) (.inr h)
  have hn1 := join_next (O := O) (N := i + 1) (k := i) (i := 1) (by omega) (.inl (by omega))
  have he := join_end (O := O) (k := i) (N := i + 1) (by omega)
  rw [jD_whole h] at hn hn1 he
  have h1 : i + 1 - i = 1 := by omega
  rw [h1] at hn hn1 he
  have h2 : cntP (O + i) 1 = 1 := by unfold cntP; rw [if_neg (by omega)]; omega
  rw [h2] at he
  refine ⟨he.symm, cutC_eq (by omega) _ (Nat.le_refl _) (.inr h), ?_⟩
  have h3 : okN (O + i) 1 0 = O + i := rfl
  have h4 : okN (O + i) 1 1 = O + i + 1 := by unfold okN; rw [if_neg (by omega)]; omega
  rw [h3] at hn
  simp only [Nat.add_zero] at hn
  rw [h4] at hn1
  unfold pcell pB pF pT pA
  rw [← hn, ← hn1]
  congr 3
  · congr 2; congr 1; omega
  · congr 2; congr 1; omega
theorem byte_same {O i : Nat} (h : jS O (i + 1) i) : ∃ D, cntP O i = D + 1 ∧ cntP O (i + 1) = D + 1 ∧ pB O i D = (O + i) / 256 ∧ pT O i D = (O + i) % 256 ∧
    (cutC O i (D + 1)).set (D * 4 + 2) (.int .i64 (((O + i) % 256 + 1 : Nat) : Int)) = cutC O (i + 1) (D + 1) := by
  have hm := merge_cells h
  have hd := jD_cut h
  have hc := join_cut h
  have he := join_end (O := O) (k := i) (N := i + 1) (by omega)
  have h1 : i + 1 - i = 1 := by omega
  rw [h1] at hm hc he
  have h2 : cntP (O + i) 1 = 1 := by unfold cntP; rw [if_neg (by omega)]; omega
  rw [h2] at he
  have h5 : pT (O + i) 1 0 = (O + i) % 256 + 1 := by
    have h3 : okN (O + i) 1 0 = O + i := rfl
    have h4 : okN (O + i) 1 1 = O + i + 1 := by unfold okN; rw [if_neg (by omega)]; omega
    unfold pT; rw [h3, h4]; omega
  refine ⟨jD O (i + 1) i, hd.1, by omega, hc.1, hc.2.1, ?_⟩
  rw [← h5]; exact hm
theorem byte_apart {O i : Nat} (h : ¬ jS O (i + 1) i) (h0 : 0 < cntP O i) : pB O i (cntP O i - 1) ≠ (O + i) / 256 := join_apart (O := O) (N := i + 1) (k := i) (by omega) h h0
theorem set_new {cs : List Value} {n : Nat} (hl : cs.length = 4 * n) (a b c d e : Value) : (cs ++ [a, b, c, d]).set (n * 4 + 2) e = cs ++ [a, b, e, d] := by
  rw [List.set_append_right _ _ (by omega), hl, show n * 4 + 2 - 4 * n = 2 by omega]
  rfl
theorem byte_nums {O i z bk at_ : Nat} (h1 : O + i = z) (h2 : z / 256 = bk) (h3 : z % 256 = at_) (h4 : z < 4294967296) (h5 : i < 65536) :
    IntKind.u64.wrap ((O : Int) + (i : Int)) = (z : Int) ∧ (z : Int) / 256 = (bk : Int) ∧ (z : Int) % 256 = (at_ : Int) ∧ IntKind.u64.wrap (bk : Int) = (bk : Int) ∧ IntKind.u64.wrap (at_ : Int) = (at_ : Int) ∧ wrap64 (at_ : Int) = (at_ : Int) ∧ wrap64 (i : Int) = (i : Int) ∧
    wrap64 ((at_ : Int) + 1) = ((at_ + 1 : Nat) : Int) ∧ Int.tdiv (z : Int) 256 = (bk : Int) ∧ Int.tmod (z : Int) 256 = (at_ : Int) ∧ IntKind.u64.wrap ((i : Int) + 1) = (i : Int) + 1 :=
  ⟨wu_eq (by omega) (by omega) (by omega), by omega, by omega, wu (by omega) (by omega), wu (by omega) (by omega), w64 (by omega) (by omega), w64 (by omega) (by omega), w64_eq (by omega) (by omega) (by omega),
    by rw [Int.tdiv_eq_ediv_of_nonneg (by omega)]; omega, by rw [Int.tmod_eq_emod_of_nonneg (by omega)]; omega, wu (by omega) (by omega)⟩
set_option maxRecDepth 100000 in
set_option maxHeartbeats 3200000 in
theorem rcut_any (O N : Nat) (w : World) (hO : O < 18446744073709551616) (hN : N < 18446744073709551616) :
    Calls Try.prog 15 #[.int .u64 (O : Int), .int .u64 (N : Int)] w fun e w' => ∃ A c, e = .returned (.slice A (cutK O N) c) ∧ w'.ownsRow w.heap.size 31 4 (.slice A (cutK O N) c) (cutK O N) (cutC O N (cutK O N)) ∧ Below w.heap.size w w' := by
  by_cases hm : N ≤ 65536
  · have dm : decide ((65536 : Int) < (N : Int)) = false := decide_eq_false (by omega)
    by_cases hw : O + N ≤ 4294967296
    · have HW := Lib.hid (show within O N 4294967296 = true by simp only [within, Bool.and_eq_true, decide_eq_true_eq]; omega)
      obtain ⟨M, hM⟩ : ∃ M, cntP O N = M := ⟨_, rfl⟩
      have HK := Lib.hid (show cutK O N = M by rw [← hM]; exact if_pos ⟨hm, hw⟩)
      have HS := Lib.hid (And.intro hm (And.intro hw hM))
      have HO := Lib.hid (And.intro hO hN)
      clear hm hw hO hN hM
      rw [HK.out]
      go_enter Try.func15, Try.ntmps15
      go_wp2_with fail
      refine (rwithin_at _ (by have := HO.out; omega) (by have := HO.out; omega) (by omega) HW.out).mono ?_; rintro e w' ⟨rfl, rfl⟩
      clear dm
      go_wp2_with fail
      go_loopw [5, 6] (fun l iv wr => ∃ (i n cap : Nat) (A : Option Addr), i ≤ N ∧ l = .slice A n cap ∧ iv = .int .u64 (i : Int) ∧ n = cntP O i ∧ wr.ownsRow w.heap.size 31 4 (.slice A n cap) n (cutC O i n) ∧ Below w.heap.size w wr) (fun _ iv _ => N - (intOf iv).toNat)
      case atStart => exact ⟨0, 0, 0, none, by omega, rfl, rfl, rfl, own_nil _ _ _ _, Below.refl _ _⟩
      case round =>
        obtain ⟨i, n, cap, A, hi, rfl, rfl, hn, ho, hb⟩ := hrel
        have HOW := Lib.hid ho
        have HR := Lib.hid hb
        have HN := Lib.hid hn
        clear ho hb hn
        by_cases hlt : i < N
        · have HLT := Lib.hid hlt
          have hns : n < 65538 := by have h1 := HN.out; have h2 := HS.out; unfold cntP at h1; split at h1 <;> omega
          have hz : O + i < 4294967296 := by have := HS.out; omega
          have hi16 : i < 65536 := by have := HS.out; omega
          have HNS := Lib.hid hns
          clear hi
          by_cases hs : jS O (i + 1) i
          · obtain ⟨D, e1, e2, e3, e4, e5⟩ := byte_same hs
            obtain rfl : n = D + 1 := by rw [HN.out, e1]
            have ho := HOW.out
            obtain ⟨ga, rfl, y0, -, y2, -⟩ := pl_at ho (j := D) (by omega)
            rw [e3, Int.natCast_ediv, Int.natCast_add] at y0
            rw [e4, Int.natCast_emod, Int.natCast_add] at y2
            have z2 := ho.frozenAt (D * 4 + 2)
            have hn0 : ((D : Int) + 1 == 0) = false := by simp; omega
            have hDs : D < 65538 := by omega
            obtain ⟨w2, hw2⟩ : ∃ w2, wr.setCell ⟨ga, D * 4 + 2, none⟩ (.int .i64 (((O : Int) + (i : Int)) % 256 + 1)) = w2 := ⟨_, rfl⟩
            have O2 := Lib.hid (show w2.ownsRow w.heap.size 31 4 (.slice (some ⟨ga, 0, none⟩) (D + 1) cap) (D + 1) (cutC O (i + 1) (D + 1)) by
              rw [← hw2, ← e5, Int.natCast_add, Int.natCast_emod, Int.natCast_add]
              exact (ho.stored _ _).1)
            have B2 := Lib.hid (show Below w.heap.size w w2 by rw [← hw2]; exact HR.out.setCell (own_base ho ga rfl) _)
            have N2 := Lib.hid (show D + 1 = cntP O (i + 1) by rw [e2])
            clear hs ho e1 e2 e3 e4 e5 hns
            go_wp2_with fail
            go_roundw
            case rel => exact ⟨i + 1, D + 1, cap, _, HLT.out, rfl, by push_cast; rfl, N2.out, O2.out, B2.out⟩
            case measure => simp [intOf]; have := HLT.out; omega
          · obtain ⟨e1, e2, e3⟩ := byte_new hs
            rw [Int.natCast_ediv, Int.natCast_emod, Int.natCast_add, Int.natCast_add, Int.natCast_emod, Int.natCast_add] at e3
            by_cases hn0 : n = 0
            · have d0 : ((n : Int) == 0) = true := by simp; omega
              have HPC := Lib.hid (show cutC O i n ++ [.int .u64 (((O : Int) + (i : Int)) / 256), .int .i64 (((O : Int) + (i : Int)) % 256), .int .i64 (((O : Int) + (i : Int)) % 256 + 1), .int .i64 (i : Int)] = cutC O (i + 1) (n + 1) by
                rw [HN.out, e2]; simp only [cutC]; rw [e3]; rfl)
              have N2 := Lib.hid (show n + 1 = cntP O (i + 1) by rw [e1, HN.out])
              clear hs hn0 e1 e2 e3 hns
              go_upto_region 10 with fail
              go_wp2_with (at_builtin; refine print_append_cells (w0 := w) (W := wr) w.heap.size rfl (.tmp 45) (.tmp 52) 26 31 (.agg #[.int .u64 0, .int .i64 0, .int .i64 0, .int .i64 0]) 4 32 rfl Try.underlying26 infoP rfl (by omega) (by omega) (.slice A n cap) n (cutC O i n) [.int .u64 (((O : Int) + (i : Int)) / 256), .int .i64 (((O : Int) + (i : Int)) % 256), .int .i64 (((O : Int) + (i : Int)) % 256), .int .i64 (i : Int)] rfl (by simp [Act.eval, Act.put]) rfl (by intro u hu; simp at hu; rcases hu with rfl | rfl | rfl | rfl <;> rfl) HOW.out HR.out HR.out.size (by have := HNS.out; omega) ?_)
              intro v6 w6 hown hB hg hat
              obtain ⟨A6, c6, rfl⟩ := own_slice hown
              obtain ⟨g6, cap6, he6, hg6, -⟩ := hown.form (by omega)
              injection he6 with he6 h62 h63
              subst he6
              have hl4 := cutC_len O i n
              have y6 : w6.cell? ⟨g6, n * 4 + 2, none⟩ = some (.int .i64 (((O : Int) + (i : Int)) % 256)) := own_cell4 hown _ _ (by rw [List.getElem?_append_right (by omega), hl4, show n * 4 + 2 - 4 * n = 2 by omega]; rfl)
              have z6 : w6.frozen? ⟨g6, n * 4 + 2, none⟩ = false := hown.frozenAt _
              obtain ⟨w7, hw7⟩ : ∃ w7, w6.setCell ⟨g6, n * 4 + 2, none⟩ (.int .i64 (((O : Int) + (i : Int)) % 256 + 1)) = w7 := ⟨_, rfl⟩
              have O7 := Lib.hid (show w7.ownsRow w.heap.size 31 4 (.slice (some ⟨g6, 0, none⟩) (n + 1) c6) (n + 1) (cutC O (i + 1) (n + 1)) by
                rw [← hw7, ← HPC.out, ← set_new hl4 _ _ (.int .i64 (((O : Int) + (i : Int)) % 256)) _ _]
                exact (hown.stored _ _).1)
              have B7 := Lib.hid (show Below w.heap.size w w7 by rw [← hw7]; exact hB.setCell (own_base hown g6 rfl) _)
              have hns : n < 65538 := HNS.out
              clear hown hB hg hat hl4 hg6 h62 h63
              go_wp2_with fail
              go_roundw
              case rel => exact ⟨i + 1, n + 1, c6, _, HLT.out, rfl, by push_cast; rfl, N2.out, O7.out, B7.out⟩
              case measure => simp [intOf]; have := HLT.out; omega
            · obtain ⟨D, hD⟩ : ∃ D, n = D + 1 := ⟨n - 1, by omega⟩
              have hap := byte_apart hs (by rw [← HN.out]; omega)
              rw [← HN.out, hD, Nat.add_sub_cancel] at hap
              subst hD
              have ho := HOW.out
              obtain ⟨ga, rfl, y0, -, -, -⟩ := pl_at ho (j := D) (by omega)
              obtain ⟨b', hb'⟩ : ∃ b', pB O i D = b' := ⟨_, rfl⟩
              rw [hb'] at y0 hap
              have hdn : ((D : Int) + 1 == 0) = false := by simp; omega
              have hbb : ((b' : Int) != ((O : Int) + (i : Int)) / 256) = true := by simp; omega
              have hDs : D < 65538 := by omega
              have HPC := Lib.hid (show cutC O i (D + 1) ++ [.int .u64 (((O : Int) + (i : Int)) / 256), .int .i64 (((O : Int) + (i : Int)) % 256), .int .i64 (((O : Int) + (i : Int)) % 256 + 1), .int .i64 (i : Int)] = cutC O (i + 1) (D + 1 + 1) by
                rw [HN.out, e2]; simp only [cutC]; rw [e3]; rfl)
              have N2 := Lib.hid (show D + 1 + 1 = cntP O (i + 1) by rw [e1, HN.out])
              clear hs hn0 e1 e2 e3 hns hap hb' ho
              go_upto_region 10 with fail
              go_wp2_with (at_builtin; refine print_append_cells (w0 := w) (W := wr) w.heap.size rfl (.tmp 45) (.tmp 52) 26 31 (.agg #[.int .u64 0, .int .i64 0, .int .i64 0, .int .i64 0]) 4 32 rfl Try.underlying26 infoP rfl (by omega) (by omega) (.slice (some ⟨ga, 0, none⟩) (D + 1) cap) (D + 1) (cutC O i (D + 1)) [.int .u64 (((O : Int) + (i : Int)) / 256), .int .i64 (((O : Int) + (i : Int)) % 256), .int .i64 (((O : Int) + (i : Int)) % 256), .int .i64 (i : Int)] rfl (by simp [Act.eval, Act.put]) rfl (by intro u hu; simp at hu; rcases hu with rfl | rfl | rfl | rfl <;> rfl) HOW.out HR.out HR.out.size (by have := HNS.out; omega) ?_)
              intro v6 w6 hown hB hg hat
              obtain ⟨A6, c6, rfl⟩ := own_slice hown
              obtain ⟨g6, cap6, he6, hg6, -⟩ := hown.form (by omega)
              injection he6 with he6 h62 h63
              subst he6
              have hl4 := cutC_len O i (D + 1)
              have y6 : w6.cell? ⟨g6, (D + 1) * 4 + 2, none⟩ = some (.int .i64 (((O : Int) + (i : Int)) % 256)) := own_cell4 hown _ _ (by rw [List.getElem?_append_right (by omega), hl4, show (D + 1) * 4 + 2 - 4 * (D + 1) = 2 by omega]; rfl)
              have z6 : w6.frozen? ⟨g6, (D + 1) * 4 + 2, none⟩ = false := hown.frozenAt _
              obtain ⟨w7, hw7⟩ : ∃ w7, w6.setCell ⟨g6, (D + 1) * 4 + 2, none⟩ (.int .i64 (((O : Int) + (i : Int)) % 256 + 1)) = w7 := ⟨_, rfl⟩
              have O7 := Lib.hid (show w7.ownsRow w.heap.size 31 4 (.slice (some ⟨g6, 0, none⟩) (D + 1 + 1) c6) (D + 1 + 1) (cutC O (i + 1) (D + 1 + 1)) by
                rw [← hw7, ← HPC.out, ← set_new hl4 _ _ (.int .i64 (((O : Int) + (i : Int)) % 256)) _ _]
                exact (hown.stored _ _).1)
              have B7 := Lib.hid (show Below w.heap.size w w7 by rw [← hw7]; exact hB.setCell (own_base hown g6 rfl) _)
              have hns : D + 1 < 65538 := HNS.out
              clear hown hB hg hat hl4 hg6 h62 h63
              go_wp2_with fail
              go_roundw
              case rel => exact ⟨i + 1, D + 1 + 1, c6, _, HLT.out, rfl, by push_cast; rfl, N2.out, O7.out, B7.out⟩
              case measure => simp [intOf]; have := HLT.out; omega
        · obtain rfl : i = N := by omega
          clear hi hlt
          go_wp2_with fail
          go_ret
          obtain rfl : n = M := by rw [HN.out, HS.out.2.2]
          exact ⟨A, cap, rfl, HOW.out, HR.out⟩
    · have HW := Lib.hid (show within O N 4294967296 = false by
        cases h : within O N 4294967296 with
        | false => rfl
        | true => simp only [within, Bool.and_eq_true, decide_eq_true_eq] at h; omega)
      have HK := Lib.hid (show cutK O N = 0 from if_neg (fun h => hw h.2))
      have HO := Lib.hid (And.intro hO hN)
      clear hm hw hO hN
      go_enter Try.func15, Try.ntmps15
      go_wp2_with fail
      refine (rwithin_at _ (by have := HO.out; omega) (by have := HO.out; omega) (by omega) HW.out).mono ?_; rintro e w' ⟨rfl, rfl⟩
      go_wp2_with fail
      go_ret
      rw [HK.out]
      exact ⟨none, 0, rfl, own_nil _ _ _ _, Below.refl _ _⟩
  · have dm : decide ((65536 : Int) < (N : Int)) = true := decide_eq_true (by omega)
    have HK := Lib.hid (show cutK O N = 0 from if_neg (fun h => hm h.1))
    clear hm hO hN
    go_enter Try.func15, Try.ntmps15
    go_wp2_with fail
    go_ret
    rw [HK.out]
    exact ⟨none, 0, rfl, own_nil _ _ _ _, Below.refl _ _⟩
theorem rcut_at {O N : Nat} {k : Nat} (w : World) (hO : O < 18446744073709551616) (hN : N < 18446744073709551616) (hk : cutK O N = k) :
    Calls Try.prog 15 #[.int .u64 (O : Int), .int .u64 (N : Int)] w fun e w' => ∃ A c, e = .returned (.slice A k c) ∧ w'.ownsRow w.heap.size 31 4 (.slice A k c) k (cutC O N k) ∧ Below w.heap.size w w' := by subst hk; exact rcut_any O N w hO hN
end Go.Proofs.Ytgmjpnampjkfeaa.Pie
