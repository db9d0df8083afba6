/- Pieces: two ranges, one behind the other: the walk. -/
import Derived.BigQuiet
import Derived.Laws.AppendOwnNone
import Derived.Test.YtgmjpnampjkfeaaPieN
set_option linter.unusedVariables false
set_option linter.unusedSimpArgs false
namespace Go.Proofs.Ytgmjpnampjkfeaa.Pie
open Go Go.RowKit Go.Proofs.YtgmjpnampjkfeaaW.PrintWords Go.Proofs.YtgmjpnampjkfeaaW.PrintLast Go.Proofs.YtgmjpnampjkfeaaW.PrintMore Base

theorem has_own {w : World} {base K c : Nat} {A : Option Addr} {O N : Nat} (h : w.ownsRow base 31 4 (.slice A K c) K (cutC O N K)) : Has w A K (fun j => ((pB O N j : Int), (pF O N j : Int), (pT O N j : Int), (pA O N j : Int))) := fun j hj => pl_at h hj
theorem cutC_one (O N k : Nat) : ∀ u ∈ cutC O N k, u.oneCell' = true := by
  induction k with
  | zero => intro u hu; cases hu
  | succ k ih =>
    intro u hu
    simp only [cutC, List.mem_append] at hu
    rcases hu with hu | hu
    · exact ih u hu
    · simp only [pcell, List.mem_cons, List.not_mem_nil, or_false] at hu
      rcases hu with rfl | rfl | rfl | rfl <;> rfl
/-- A list of pieces: nil, or where it lies. -/
def NilOr (w : World) (base : Nat) (v : Value) (k : Nat) (cs : List Value) : Prop :=
  (k = 0 ∧ v = .slice none 0 0) ∨ ∃ g c, v = .slice (some ⟨g, 0, none⟩) k k ∧ w.ownsRow base 31 4 (.slice (some ⟨g, 0, none⟩) k c) k cs
theorem pl_cases {w w' : World} {e : Ending} {k : Nat} {cs : List Value} (h : PL w w' e k cs) : Below w.heap.size w w' ∧ ∃ v, e = .returned v ∧ NilOr w' w.heap.size v k cs := by
  obtain ⟨A, c, rfl, ho, hb⟩ := h
  refine ⟨hb, _, rfl, ?_⟩
  rcases ho.2 with ⟨hv, -⟩ | ⟨g, cap, cur, hv, hk, hh, r⟩
  · injection hv with h1 h2 h3
    subst h1; subst h2
    exact .inl ⟨rfl, rfl⟩
  · injection hv with h1 h2 h3
    subst h1
    exact .inr ⟨g, c, rfl, ho⟩
theorem nilOr_below {w w' : World} {base k : Nat} {v : Value} {cs : List Value} (h : NilOr w base v k cs) (hb : Below w.heap.size w w') : NilOr w' base v k cs := by
  rcases h with h | ⟨g, c, h1, h2⟩
  · exact .inl h
  · exact .inr ⟨g, c, h1, pw_own_below h2 hb⟩
def jN (O N k i : Nat) : Nat := if jS O N k ∧ i = 0 then jD O N k + 1 else jD O N k + i
def jC (O N k i : Nat) : List Value := if jS O N k ∧ i = 0 then cutC O k (jD O N k + 1) else cutC O N (jD O N k + i)
theorem jN_cut {O N k i : Nat} (h : jS O N k ∧ i = 0) : jN O N k i = jD O N k + 1 ∧ jC O N k i = cutC O k (jD O N k + 1) := ⟨if_pos h, if_pos h⟩
theorem jN_not {O N k i : Nat} (h : ¬ (jS O N k ∧ i = 0)) : jN O N k i = jD O N k + i ∧ jC O N k i = cutC O N (jD O N k + i) := ⟨if_neg h, if_neg h⟩
theorem j_start {O N k : Nat} (hk : k ≤ N) : jN O N k 0 = cntP O k ∧ jC O N k 0 = cutC O k (cntP O k) := by
  by_cases hs : jS O N k
  · have h1 := jN_cut ⟨hs, rfl⟩ (i := 0)
    have h2 := jD_cut hs
    rw [h1.1, h1.2, h2.1]; exact ⟨rfl, rfl⟩
  · have h1 := jN_not (i := 0) (fun h => hs h.1)
    rw [h1.1, h1.2, jD_whole hs, Nat.add_zero]
    exact ⟨rfl, (cutC_eq hk _ (Nat.le_refl _) (.inr hs)).symm⟩
theorem j_end {O N k : Nat} (hk : k ≤ N) : jN O N k (cntP (O + k) (N - k)) = cntP O N ∧ jC O N k (cntP (O + k) (N - k)) = cutC O N (cntP O N) := by
  have h : ¬ (jS O N k ∧ cntP (O + k) (N - k) = 0) := by
    rintro ⟨h1, h2⟩
    unfold jS at h1
    unfold cntP at h2
    rw [if_neg (by omega)] at h2
    omega
  have h1 := jN_not h
  rw [h1.1, h1.2, join_end hk]
  exact ⟨rfl, rfl⟩
theorem merge_cells {O N k : Nat} (hs : jS O N k) : (cutC O k (jD O N k + 1)).set (jD O N k * 4 + 2) (.int .i64 (pT (O + k) (N - k) 0 : Int)) = cutC O N (jD O N k + 1) := by
  obtain ⟨h1, h2, h3, h4, h5, h6⟩ := join_cut hs
  have hc := (jD_cut hs).1
  have hl := cutC_len O k (jD O N k)
  simp only [cutC]
  rw [List.set_append_right _ _ (by omega), hl, show jD O N k * 4 + 2 - 4 * jD O N k = 2 by omega, cutC_eq (show k ≤ N by unfold jS at hs; omega) _ (by omega) (.inl (by omega))]
  congr 1
  unfold pcell
  rw [h3, h4, h5, h6]
  rfl
theorem pred_num' {j i : Nat} (h : j = i + 1) (h1 : j < 65538) : wrap64 ((j : Int) - 1) = (i : Int) := w64_eq (by omega) (by omega) (by omega)
theorem join_nums {q k q1 : Nat} (h : q + k = q1) (h1 : q < 65537) (h2 : k ≤ 65536) : wrap64 (k : Int) = (k : Int) ∧ wrap64 ((q : Int) + (k : Int)) = (q1 : Int) := ⟨w64 (by omega) (by omega), w64_eq (by omega) (by omega) (by omega)⟩
/-- A piece of the second range, as a piece of the whole. -/
theorem next_cells {O N k i P R q : Nat} (hP : O + k = P) (hR : N - k = R) (hk : k < N) (h : ¬ (jS O N k ∧ i = 0)) (hq : pA P R i + k = q) : jN O N k i + 1 = jN O N k (i + 1) ∧ jC O N k i ++ [.int .u64 (pB P R i : Int), .int .i64 (pF P R i : Int), .int .i64 (pT P R i : Int), .int .i64 (q : Int)] = jC O N k (i + 1) := by
  subst hP; subst hR; subst hq
  have h1 := jN_not h
  have h2 := jN_not (O := O) (N := N) (k := k) (i := i + 1) (fun h => by omega)
  obtain ⟨e1, e2, e3, e4⟩ := join_piece (O := O) (i := i) hk (by
    rcases Nat.eq_zero_or_pos i with hi | hi
    · exact .inr (fun hs => h ⟨hs, hi⟩)
    · exact .inl hi)
  rw [h1.1, h1.2, h2.1, h2.2, e1, e2, e3, e4]
  exact ⟨rfl, rfl⟩
section
variable {ops : Array Oper} {rest : List Oper} {o : Oper} {a : Act} {Q : Exit → Act → World → Prop}
theorem app_rows {W : World} (base : Nat) (hgd : o.guard = none) (s x : Operand) (ho : o.op = .call { callee := .builtin .append, args := #[s, x], argTypes := #[26, 26] })
    (v : Value) (n : Nat) (xs : List Value) (hs : a.eval s = v) (HO : W.ownsRow base 31 4 v n xs) (g m c : Nat) (news : List Value) (hx : a.eval x = .slice (some ⟨g, 0, none⟩) m c) (hl : news.length = m * 4)
    (hnews : ∀ (j : Nat) (u : Value), news[j]? = some u → W.cell? ⟨g, j, none⟩ = some u) (h1 : ∀ u ∈ news, u.oneCell' = true) (hle : n + m ≤ 4398046511104) (hbase : base ≤ W.heap.size)
    (h : ∀ v1 w1, w1.ownsRow base 31 4 v1 (n + m) (xs ++ news) → W.grownBy w1 v.ownBlock → wpList Try.prog ops Q rest (a.put o.dst v1) w1) : wpList Try.prog ops Q (o :: rest) a W := by
  obtain ⟨i0, hi, hzz⟩ := Option.map_eq_some_iff.1 infoP
  simp only [Prod.mk.injEq] at hzz
  obtain ⟨hz0, hz1, hz2⟩ := hzz
  exact wpList_append_own (w := W) hgd s x 26 ho base 31 i0 _ 4 32 Try.underlying26 hi hz0 hz1 hz2 rfl (by omega) v n xs hs HO ⟨g, 0, none⟩ m c news hx hl (fun j u hu => by rw [add_plain]; exact hnews j u hu) h1 (by simp only [maxLen]; omega) (by omega) hbase
    (fun v1 w1 h2 h3 _ => h v1 w1 h2 h3)
end
theorem join_rem {C N k : Nat} (h : C % (N + 1) = k) : Int.tmod (C : Int) ((N : Int) + 1) = (k : Int) := by
  rw [← h, Int.tmod_eq_emod_of_nonneg (by omega)]; push_cast; rfl
set_option maxRecDepth 100000 in
set_option maxHeartbeats 6400000 in
theorem join_walk (a : Int) (wa : (Lit.int .u64 a).wf = true) (b : Int) (wb : (Lit.int .u64 b).wf = true) (c : Int) (wc : (Lit.int .u64 c).wf = true) (w : World) :
    Calls Try.prog 5 #[.int .u64 a, .int .u64 b, .int .u64 c] w fun e w' => e = .returned (.bool true) ∧ Below w.heap.size w w' := by
  have ha := le_of_wfu64 wa
  have hb := le_of_wfu64 wb
  have hc := le_of_wfu64 wc
  obtain ⟨O, rfl⟩ := Int.eq_ofNat_of_zero_le ha.1
  obtain ⟨N, rfl⟩ := Int.eq_ofNat_of_zero_le hb.1
  obtain ⟨C, rfl⟩ := Int.eq_ofNat_of_zero_le hc.1
  have hOO : O < 18446744073709551616 := by omega
  have hNN : N < 18446744073709551616 := by omega
  have hCC : C < 18446744073709551616 := by omega
  have HB := Lib.hid (And.intro hOO (And.intro hNN hCC))
  clear wa wb wc ha hb hc hOO hNN hCC
  by_cases hm : N ≤ 65536
  · have dm : decide ((65536 : Int) < (N : Int)) = false := decide_eq_false (by omega)
    have HM := Lib.hid hm
    by_cases h0 : cutK O N = 0
    · have HK := Lib.hid h0
      clear hm h0
      go_enter Try.func5, Try.ntmps5
      go_wp2_with fail
      refine (cut_at _ HB.out.1 HB.out.2.1 HK.out).mono ?_; rintro e w1 ⟨A, cc, rfl, ho, hbl⟩
      have HBL := Lib.hid hbl
      clear ho hbl
      go_wp2_with fail
      refine (wakes_any _).mono ?_; rintro e w2 ⟨rfl, hb2⟩
      have B2 := Lib.hid (below_then HBL.out HBL.out.size hb2)
      clear hb2
      go_wp2_with fail
      go_ret
      exact ⟨rfl, B2.out⟩
    · obtain ⟨c1, -, c2, c3⟩ := cutK_pos (Nat.pos_of_ne_zero h0)
      obtain ⟨M, hM⟩ : ∃ M, cntP O N = M := ⟨_, rfl⟩
      obtain ⟨k, hk⟩ : ∃ k, C % (N + 1) = k := ⟨_, rfl⟩
      have hkN : k ≤ N := by rw [← hk]; have := Nat.mod_lt C (show 0 < N + 1 by omega); omega
      obtain ⟨P, hP⟩ : ∃ P, O + k = P := ⟨_, rfl⟩
      obtain ⟨R, hR⟩ : ∃ R, N - k = R := ⟨_, rfl⟩
      obtain ⟨Ka, hKa⟩ : ∃ Ka, cntP O k = Ka := ⟨_, rfl⟩
      obtain ⟨Kb, hKb⟩ : ∃ Kb, cntP P R = Kb := ⟨_, rfl⟩
      have HP := Lib.hid (And.intro hP (And.intro hR (And.intro hkN (And.intro c2 c3))))
      have HKM := Lib.hid (show cutK O N = M by rw [c1]; exact hM)
      have HKA := Lib.hid (show cutK O k = Ka by rw [← hKa]; exact if_pos ⟨by omega, by omega⟩)
      have HKB := Lib.hid (show cutK P R = Kb by rw [← hKb]; exact if_pos ⟨by omega, by omega⟩)
      have HC := Lib.hid (And.intro hM (And.intro hKa hKb))
      have hM0 : ((M : Int) == 0) = false := by have : M ≠ 0 := by rw [← HKM.out]; exact h0
                                                simp; omega
      have hMs : M < 65538 := by have h1 := cutK_le O N; rw [HKM.out] at h1; omega
      have HMS := Lib.hid hMs
      have n1 : IntKind.u64.wrap ((N : Int) + 1) = (N : Int) + 1 := wu (by omega) (by omega)
      have n2 : Int.tmod (C : Int) ((N : Int) + 1) = (k : Int) := join_rem hk
      have n3 : ((N : Int) + 1 == 0) = false := by simp; omega
      have n4 : IntKind.u64.wrap (k : Int) = (k : Int) := wu (by omega) (by omega)
      have n5 : IntKind.u64.wrap ((O : Int) + (k : Int)) = (P : Int) := wu_eq (by omega) (by omega) (by omega)
      have n6 : IntKind.u64.wrap ((N : Int) - (k : Int)) = (R : Int) := wu_eq (by omega) (by omega) (by omega)
      clear hm h0 c1 c2 c3 hM hk hkN hP hR hKa hKb hMs
      go_enter Try.func5, Try.ntmps5
      go_wp2_with fail
      refine (cut_at _ HB.out.1 HB.out.2.1 HKM.out).mono ?_; rintro e w1 ⟨A0, cc0, rfl, ho, hbl⟩
      have O1 := Lib.hid ho
      have B1 := Lib.hid hbl
      clear ho hbl
      go_wp2_with fail
      refine (cut_at _ HB.out.1 (by have h1 := HP.out; have h2 := HM.out; omega) HKA.out).mono ?_; rintro e w2 h
      obtain ⟨hb, va, rfl, hc⟩ := pl_cases h
      have B2 := Lib.hid (below_then B1.out B1.out.size hb)
      have O2 := Lib.hid (pw_own_below O1.out hb)
      have HA := Lib.hid hc
      clear h hb hc
      go_wp2_with fail
      refine (cut_at _ (by have h1 := HP.out; have h2 := HM.out; omega) (by have h1 := HP.out; have h2 := HM.out; omega) HKB.out).mono ?_; rintro e w3 ⟨A3, cc3, rfl, ho, hb⟩
      have B3 := Lib.hid (below_then B2.out B2.out.size hb)
      have O3 := Lib.hid (pw_own_below O2.out hb)
      have HA3 := Lib.hid (nilOr_below HA.out hb)
      have OB := Lib.hid ho
      clear hb ho
      go_upto_region 9 with fail
      go_cut [11] (fun v wx => ∃ A cap, v = .slice A Ka cap ∧ wx.ownsRow w3.heap.size 31 4 (.slice A Ka cap) Ka (cutC O k Ka) ∧ Below w3.heap.size w3 wx)
      case first =>
        rcases HA3.out with ⟨rfl, rfl⟩ | ⟨g, c, rfl, ho⟩
        · obtain ⟨i0, hi, hzz⟩ := Option.map_eq_some_iff.1 infoP
          go_wp2_with (at_builtin; refine wpList_append_own_none (w := w3) rfl (.tmp 43) (.tmp 44) 26 rfl w3.heap.size 31 i0 4 Try.underlying26 hi (.slice none 0 0) 0 [] rfl (own_nil _ _ _ _) rfl ?_)
          go_meet
          exact ⟨none, 0, rfl, own_nil _ _ _ _, Below.refl _ _⟩
        · have HO := Lib.hid ho
          clear ho
          go_wp2_with (at_builtin; refine app_rows (W := w3) w3.heap.size rfl (.tmp 43) (.tmp 44) rfl (.slice none 0 0) 0 [] rfl (own_nil _ _ _ _) g Ka Ka (cutC O k Ka) rfl (by rw [cutC_len]; omega) (fun j u hu => own_cell4 HO.out j u hu) (cutC_one _ _ _) (by have h1 := cutK_le O k; rw [HKA.out] at h1; omega) (Nat.le_refl _) ?_)
          intro v4 w4 hown hg
          obtain ⟨A4, c4, rfl⟩ := own_slice hown
          have O4 := Lib.hid hown
          have G4 := Lib.hid (show Below w3.heap.size w3 w4 from pw_below_grown (Below.refl _ _) _ (Nat.le_refl _) hg (fun k hk => by cases hk))
          clear hown hg
          go_wp2_with fail
          go_meet
          exact ⟨A4, c4, rfl, O4.out, G4.out⟩
      case rest =>
        obtain ⟨A, cap, rfl, ho, hb⟩ := hcut
        have S0 := Lib.hid (And.intro ho hb)
        have HJS := Lib.hid (j_start (O := O) (k := k) HP.out.2.2.1)
        have HJE := Lib.hid (j_end (O := O) (k := k) HP.out.2.2.1)
        clear ho hb n1 n2 n3 n4 n5 n6 hM0 dm
        go_wp2_with fail
        go_loopw [11, 12] (fun l i wr => ∃ (j n cap : Nat) (A : Option Addr), j ≤ Kb ∧ l = .slice A n cap ∧ i = .int .i64 (j : Int) ∧ n = jN O N k j ∧ wr.ownsRow w3.heap.size 31 4 (.slice A n cap) n (jC O N k j) ∧ Below w3.heap.size w3 wr) (fun _ i _ => Kb - (intOf i).toNat)
        case atStart => exact ⟨0, Ka, cap, A, by omega, rfl, rfl, by rw [HJS.out.1, HC.out.2.1], by rw [HJS.out.2, HC.out.2.1]; exact S0.out.1, S0.out.2⟩
        case round =>
          obtain ⟨j, n, cap, A, hj, rfl, rfl, hn, ho, hb⟩ := hrel
          have HR := Lib.hid hb
          have HN := Lib.hid hn
          have HOL := Lib.hid ho
          by_cases hlj : j < Kb
          · obtain ⟨gb, rfl, x0, x1, x2, x3⟩ := pl_at (pw_own_below OB.out hb) hlj
            have HLJ := Lib.hid hlj
            have hkN : k < N := by
              have h1 := HP.out; have h2 := HC.out.2.2
              rcases Nat.lt_or_ge k N with h | h
              · exact h
              · have h3 : R = 0 := by omega
                rw [h3] at h2; simp only [cntP, if_true] at h2; omega
            have HKN := Lib.hid hkN
            have hq := (lt_cnt P R j).1 (by rw [HC.out.2.2]; exact hlj)
            have hbd : pB P R j < 16777217 ∧ pF P R j < 257 ∧ pT P R j < 257 ∧ pA P R j < 65537 ∧ n < 65538 := by
              have h1 := HP.out
              have h2 := HM.out
              have h3 := pT_le (show j < cntP P R by rw [HC.out.2.2]; exact hlj)
              have h4 := ok_range P R j
              have h5 : pF P R j < 256 := Nat.mod_lt _ (by omega)
              have h6 := cutK_le P R
              refine ⟨by unfold pB; omega, by omega, by omega, by unfold pA; omega, ?_⟩
              have h7 := join_end (O := O) h1.2.2.1
              rw [h1.1, h1.2.1, HC.out.1, HC.out.2.2] at h7
              have h8 := HMS.out
              rw [hn]; unfold jN; split <;> omega
            obtain ⟨b, hb0⟩ : ∃ b, pB P R j = b := ⟨_, rfl⟩
            obtain ⟨f, hf0⟩ : ∃ f, pF P R j = f := ⟨_, rfl⟩
            obtain ⟨t, ht0⟩ : ∃ t, pT P R j = t := ⟨_, rfl⟩
            obtain ⟨q, hq0⟩ : ∃ q, pA P R j = q := ⟨_, rfl⟩
            obtain ⟨q1, hq1⟩ : ∃ q1, q + k = q1 := ⟨_, rfl⟩
            have HNX0 := Lib.hid (fun h => next_cells (i := j) HP.out.1 HP.out.2.1 hkN h (q := q1) (by rw [hq0]; exact hq1))
            rw [hb0, hf0, ht0] at HNX0
            rw [hb0] at x0; rw [hf0] at x1; rw [ht0] at x2; rw [hq0] at x3
            rw [hb0, hf0, ht0, hq0] at hbd
            have HBD := Lib.hid hbd
            have HNS := Lib.hid hbd.2.2.2.2
            have hjK : j < 65538 := by have h1 := cutK_le P R; rw [HKB.out] at h1; omega
            have HQ := Lib.hid (And.intro hb0 (And.intro hf0 (And.intro ht0 (And.intro hq0 hq1))))
            have HW := Lib.hid (join_nums hq1 hbd.2.2.2.1 (by have h1 := HP.out; have h2 := HM.out; omega))
            obtain ⟨w2', hw2', b2, f2, s2⟩ := made wr #[.int .u64 0, .int .i64 0, .int .i64 0, .int .i64 0] 31
            obtain ⟨w3', hw3'⟩ : ∃ w3', w2'.setRow wr.heap.size #[.int .u64 (b : Int), .int .i64 (f : Int), .int .i64 (t : Int), .int .i64 (q : Int)] = w3' := ⟨_, rfl⟩
            have R2 := Lib.hid f2
            have p3 : w3'.heap[wr.heap.size]? = some (.cells #[.int .u64 (b : Int), .int .i64 (f : Int), .int .i64 (t : Int), .int .i64 (q : Int)] 31) := by rw [← hw3']; exact setRow_heap _ _ _ _ _ _ f2
            have y3 : w3'.cell? ⟨wr.heap.size, 3, none⟩ = some (.int .i64 (q : Int)) := cell_row p3 rfl
            have z3 : w3'.frozen? ⟨wr.heap.size, 3, none⟩ = false := blk_frozen p3 3
            obtain ⟨w4, hw4⟩ : ∃ w4, w3'.setCell ⟨wr.heap.size, 3, none⟩ (.int .i64 (q1 : Int)) = w4 := ⟨_, rfl⟩
            have p4 : w4.heap[wr.heap.size]? = some (.cells #[.int .u64 (b : Int), .int .i64 (f : Int), .int .i64 (t : Int), .int .i64 (q1 : Int)] 31) := by rw [← hw4]; exact blk_put p3 3 _ rfl
            have P4 := Lib.hid p4
            have nown : some wr.heap.size ≠ (Value.slice A n cap).ownBlock := by intro he; have := own_lt ho _ he.symm; omega
            have O4 := Lib.hid (show w4.ownsRow w3.heap.size 31 4 (.slice A n cap) n (jC O N k j) by rw [← hw4, ← hw3']; exact own_setCell (own_setRow (pw_own_below ho b2) nown _) nown _)
            have B4 := Lib.hid (show Below w3.heap.size w3 w4 by rw [← hw4, ← hw3']; exact (below_setRow (below_then hb hb.size b2) hb.size _).setCell hb.size _)
            have B4w := Lib.hid (show Below wr.heap.size wr w4 by rw [← hw4, ← hw3']; exact (below_setRow b2 (Nat.le_refl _) _).setCell (Nat.le_refl _) _)
            clear b2 f2 s2 p3 hb ho hq hbd hq1 hb0 hf0 ht0 hq0 hlj hj hkN nown hn
            obtain ⟨m1, m2⟩ := HW.out
            go_wp2_with ((with_reducible refine wpList_store_row rfl 31 (.tmp 13) (.tmp 55) rfl wr.heap.size #[.int .u64 (b : Int), .int .i64 (f : Int), .int .i64 (t : Int), .int .i64 (q : Int)] ?_ ?_ 31 _ R2.out (sizeP _ _ _ _) ?_ (oneP _ _ _ _) ?_); rfl; rfl; rfl; rw [hw3'])
            clear m1 m2 hw3' hw2' x0 x1 x2 x3 y3 z3
            have c0 := cell_row p4 (i := 0) rfl
            have c1 := cell_row p4 (i := 1) rfl
            have c2 := cell_row p4 (i := 2) rfl
            clear p4 hw4
            by_cases hmj : jS O N k ∧ j = 0
            · obtain ⟨hs, hj0⟩ := hmj
              have dj : ((j : Int) == 0) = true := by simp; omega
              obtain ⟨i, hi⟩ : ∃ i, jD O N k = i := ⟨_, rfl⟩
              obtain ⟨e1, e2⟩ := jN_cut ⟨hs, hj0⟩
              have hn : n = i + 1 := by rw [HN.out, e1, hi]
              have ho := O4.out
              rw [e2, hi, ← hn] at ho
              obtain ⟨ga, rfl, y0, y1, y2, y3⟩ := pl_at ho (j := i) (by omega)
              obtain ⟨j1, j2, -⟩ := join_cut hs
              have hq := HQ.out
              rw [hi, HP.out.1, HP.out.2.1] at j1 j2
              rw [hj0] at hq
              rw [j1, hq.1] at y0
              rw [j2, hq.2.1] at y2
              have hiN := pred_num' hn HNS.out
              have dn : decide ((0 : Int) < (n : Int)) = true := decide_eq_true (by omega)
              have dn' : decide (0 < n) = true := decide_eq_true (by omega)
              have hi1 : (i : Int) < (n : Int) := by omega
              have hi2 : i < n := by omega
              have HMG := Lib.hid (And.intro hs (And.intro hj0 (And.intro hi hn)))
              have Y2 := Lib.hid y2
              have OM := Lib.hid ho
              clear hs hj0 hi hn e1 e2 ho y1 y3 j1 j2 hq
              go_quiet (fail)
              revert nq; intro nq0
              go_wp2_with fail
              go_quiet (fail)
              generalize hw5 : (w4.drewN nq0).drewN nq = w5
              have O5 : w5.ownsRow w3.heap.size 31 4 (.slice (some ⟨ga, 0, none⟩) n cap) n (cutC O k n) := by rw [← hw5]; exact pw_own_below OM.out (below_dn (below_dn (Below.refl _ _) nq0) nq)
              have B5 : Below w3.heap.size w3 w5 := by rw [← hw5]; exact below_dn (below_dn B4.out nq0) nq
              have P5 : w5.heap[wr.heap.size]? = some (.cells #[.int .u64 (b : Int), .int .i64 (f : Int), .int .i64 (t : Int), .int .i64 (q1 : Int)] 31) := by rw [← hw5]; exact P4.out
              have C5 : w5.cell? ⟨ga, i * 4 + 2, none⟩ = some (.int .i64 (f : Int)) := by rw [← hw5]; exact Y2.out
              have Z5 : w5.frozen? ⟨ga, i * 4 + 2, none⟩ = false := O5.frozenAt _
              have D5 : w5.cell? ⟨wr.heap.size, 2, none⟩ = some (.int .i64 (t : Int)) := cell_row P5 rfl
              obtain ⟨w6, hw6⟩ : ∃ w6, w5.setCell ⟨ga, i * 4 + 2, none⟩ (.int .i64 (t : Int)) = w6 := ⟨_, rfl⟩
              have O6 := Lib.hid (show w6.ownsRow w3.heap.size 31 4 (.slice (some ⟨ga, 0, none⟩) n cap) n (jC O N k (j + 1)) by
                have h1 := HMG.out
                have h2 := merge_cells h1.1
                have h3 := HQ.out.2.2.1
                rw [h1.2.1] at h3
                rw [h1.2.2.1, HP.out.1, HP.out.2.1, h3, ← h1.2.2.2] at h2
                rw [(jN_not (i := j + 1) (fun h => by omega)).2, h1.2.2.1, h1.2.1, Nat.zero_add, ← h1.2.2.2, ← h2, ← hw6]
                exact (O5.stored _ _).1)
              have B6 := Lib.hid (show Below w3.heap.size w3 w6 by rw [← hw6]; exact B5.setCell (own_base O5 ga rfl) _)
              have HNN := Lib.hid (show n = jN O N k (j + 1) by
                have h1 := HMG.out
                rw [(jN_not (i := j + 1) (fun h => by omega)).1, h1.2.2.1, h1.2.1, h1.2.2.2])
              clear hw5 O5 B5 P5 c0 c1 c2 y0 y2
              go_wp2_with fail
              go_roundw
              case rel => exact ⟨j + 1, n, cap, _, by have := HLJ.out; omega, rfl, by push_cast; rfl, HNN.out, O6.out, B6.out⟩
              case measure => simp [intOf]; have := HLJ.out; omega
            · have HNX := Lib.hid (HNX0.out hmj)
              by_cases hj0 : 0 < j
              · have dj : ((j : Int) == 0) = false := by simp; omega
                clear hmj hj0
                go_quiet (fail)
                clear c0 c1 c2
                generalize hw5 : w4.drewN nq = w5
                have P5 := Lib.hid (show w5.heap[wr.heap.size]? = some (.cells #[.int .u64 (b : Int), .int .i64 (f : Int), .int .i64 (t : Int), .int .i64 (q1 : Int)] 31) by rw [← hw5]; exact P4.out)
                have O5 := Lib.hid (show w5.ownsRow w3.heap.size 31 4 (.slice A n cap) n (jC O N k j) by rw [← hw5]; exact pw_own_below O4.out (below_dn (Below.refl _ _) nq))
                have B5 := Lib.hid (show Below w3.heap.size w3 w5 by rw [← hw5]; exact below_dn B4.out nq)
                clear hw5
                go_wp2_with (first | (at_builtin; refine print_append_cells (w0 := w3) (W := w5) w3.heap.size rfl (.tmp 99) (.tmp 101) 26 31 (.agg #[.int .u64 0, .int .i64 0, .int .i64 0, .int .i64 0]) 4 32 rfl Try.underlying26 infoP rfl (by omega) (by omega) (.slice A n cap) n (jC O N k j) [.int .u64 (b : Int), .int .i64 (f : Int), .int .i64 (t : Int), .int .i64 (q1 : Int)] rfl (by simp [Act.eval, Act.put]) rfl (by intro u hu; simp at hu; rcases hu with rfl | rfl | rfl | rfl <;> rfl) O5.out B5.out B5.out.size (by have := HNS.out; omega) ?_) | ((with_reducible refine wpList_load_row rfl 31 (.tmp 13) rfl wr.heap.size ?_ 31 _ _ _ P5.out Try.underlying31 ?_ (sizeP _ _ _ _) ?_); rfl; rfl))
                intro v6 w6 hown hB hg hat
                obtain ⟨A6, c6, rfl⟩ := own_slice hown
                have O6 := Lib.hid (show w6.ownsRow w3.heap.size 31 4 (.slice A6 (n + 1) c6) (n + 1) (jC O N k (j + 1)) by rw [← HNX.out.2]; exact hown)
                have B6 := Lib.hid hB
                clear hown hB hg hat
                go_wp2_with fail
                go_roundw
                case rel => exact ⟨j + 1, n + 1, c6, A6, by have := HLJ.out; omega, rfl, by push_cast; rfl, by rw [← HNX.out.1, HN.out], O6.out, B6.out⟩
                case measure => simp [intOf]; have := HLJ.out; omega
              · have dj : ((j : Int) == 0) = true := by simp; omega
                obtain ⟨e1, e2⟩ := jN_not hmj
                have hnn : jC O N k j = cutC O N n := by rw [e2, ← e1, HN.out]
                have hs : ¬ jS O N k := fun h => hmj ⟨h, by omega⟩
                have hnk : n = Ka := by
                  have h1 := (j_start (O := O) HP.out.2.2.1).1
                  have h2 := HN.out
                  rw [show j = 0 by omega] at h2
                  rw [h2, h1, HC.out.2.1]
                by_cases hn0 : 0 < n
                · have dn : decide ((0 : Int) < (n : Int)) = true := decide_eq_true (by omega)
                  have dn' : decide (0 < n) = true := decide_eq_true hn0
                  obtain ⟨i, hi⟩ : ∃ i, n = i + 1 := ⟨n - 1, by omega⟩
                  have hiN := pred_num' hi HNS.out
                  have ho := O4.out
                  rw [hnn] at ho
                  obtain ⟨ga, rfl, y0, -, -, -⟩ := pl_at ho (j := i) (by omega)
                  obtain ⟨b', hb'⟩ : ∃ b', pB O N i = b' := ⟨_, rfl⟩
                  rw [hb'] at y0
                  have hbb : ((b' : Int) == (b : Int)) = false := by
                    have h1 := join_apart (O := O) HKN.out hs (by rw [HC.out.2.1]; omega)
                    have h2 := HQ.out.1
                    rw [HP.out.1, HP.out.2.1, HC.out.2.1, ← hnk, hi, Nat.add_sub_cancel] at h1
                    rw [show j = 0 by omega] at h2
                    rw [h2] at h1
                    have h3 : pB O k i = pB O N i := by unfold pB; rw [join_a HP.out.2.2.1 (by rw [HC.out.2.1]; omega)]
                    rw [h3, hb'] at h1
                    simp; omega
                  have hi1 : (i : Int) < (n : Int) := by omega
                  have hi2 : i < n := by omega
                  have HNI := Lib.hid hi
                  clear hmj hj0 e1 e2 hnn hs hnk hn0 hi ho hb'
                  go_quiet (fail)
                  clear c0 c1 c2
                  generalize hw5 : w4.drewN nq = w5
                  have P5 := Lib.hid (show w5.heap[wr.heap.size]? = some (.cells #[.int .u64 (b : Int), .int .i64 (f : Int), .int .i64 (t : Int), .int .i64 (q1 : Int)] 31) by rw [← hw5]; exact P4.out)
                  have O5 := Lib.hid (show w5.ownsRow w3.heap.size 31 4 (.slice (some ⟨ga, 0, none⟩) n cap) n (jC O N k j) by rw [← hw5]; exact pw_own_below O4.out (below_dn (Below.refl _ _) nq))
                  have B5 := Lib.hid (show Below w3.heap.size w3 w5 by rw [← hw5]; exact below_dn B4.out nq)
                  clear hw5
                  go_wp2_with (first | (at_builtin; refine print_append_cells (w0 := w3) (W := w5) w3.heap.size rfl (.tmp 99) (.tmp 101) 26 31 (.agg #[.int .u64 0, .int .i64 0, .int .i64 0, .int .i64 0]) 4 32 rfl Try.underlying26 infoP rfl (by omega) (by omega) (.slice (some ⟨ga, 0, none⟩) n cap) n (jC O N k j) [.int .u64 (b : Int), .int .i64 (f : Int), .int .i64 (t : Int), .int .i64 (q1 : Int)] rfl (by simp [Act.eval, Act.put]) rfl (by intro u hu; simp at hu; rcases hu with rfl | rfl | rfl | rfl <;> rfl) O5.out B5.out B5.out.size (by have := HNS.out; omega) ?_) | ((with_reducible refine wpList_load_row rfl 31 (.tmp 13) rfl wr.heap.size ?_ 31 _ _ _ P5.out Try.underlying31 ?_ (sizeP _ _ _ _) ?_); rfl; rfl))
                  intro v6 w6 hown hB hg hat
                  obtain ⟨A6, c6, rfl⟩ := own_slice hown
                  have O6 := Lib.hid (show w6.ownsRow w3.heap.size 31 4 (.slice A6 (n + 1) c6) (n + 1) (jC O N k (j + 1)) by rw [← HNX.out.2]; exact hown)
                  have B6 := Lib.hid hB
                  clear hown hB hg hat
                  go_wp2_with fail
                  go_roundw
                  case rel => exact ⟨j + 1, n + 1, c6, A6, by have := HLJ.out; omega, rfl, by push_cast; rfl, by rw [← HNX.out.1, HN.out], O6.out, B6.out⟩
                  case measure => simp [intOf]; have := HLJ.out; omega
                · have dn : decide ((0 : Int) < (n : Int)) = false := decide_eq_false (by omega)
                  have dn' : decide (0 < n) = false := decide_eq_false hn0
                  clear hmj hj0 e1 e2 hnn hs hnk hn0
                  go_quiet (fail)
                  clear c0 c1 c2
                  generalize hw5 : w4.drewN nq = w5
                  have P5 := Lib.hid (show w5.heap[wr.heap.size]? = some (.cells #[.int .u64 (b : Int), .int .i64 (f : Int), .int .i64 (t : Int), .int .i64 (q1 : Int)] 31) by rw [← hw5]; exact P4.out)
                  have O5 := Lib.hid (show w5.ownsRow w3.heap.size 31 4 (.slice A n cap) n (jC O N k j) by rw [← hw5]; exact pw_own_below O4.out (below_dn (Below.refl _ _) nq))
                  have B5 := Lib.hid (show Below w3.heap.size w3 w5 by rw [← hw5]; exact below_dn B4.out nq)
                  clear hw5
                  go_wp2_with (first | (at_builtin; refine print_append_cells (w0 := w3) (W := w5) w3.heap.size rfl (.tmp 99) (.tmp 101) 26 31 (.agg #[.int .u64 0, .int .i64 0, .int .i64 0, .int .i64 0]) 4 32 rfl Try.underlying26 infoP rfl (by omega) (by omega) (.slice A n cap) n (jC O N k j) [.int .u64 (b : Int), .int .i64 (f : Int), .int .i64 (t : Int), .int .i64 (q1 : Int)] rfl (by simp [Act.eval, Act.put]) rfl (by intro u hu; simp at hu; rcases hu with rfl | rfl | rfl | rfl <;> rfl) O5.out B5.out B5.out.size (by have := HNS.out; omega) ?_) | ((with_reducible refine wpList_load_row rfl 31 (.tmp 13) rfl wr.heap.size ?_ 31 _ _ _ P5.out Try.underlying31 ?_ (sizeP _ _ _ _) ?_); rfl; rfl))
                  intro v6 w6 hown hB hg hat
                  obtain ⟨A6, c6, rfl⟩ := own_slice hown
                  have O6 := Lib.hid (show w6.ownsRow w3.heap.size 31 4 (.slice A6 (n + 1) c6) (n + 1) (jC O N k (j + 1)) by rw [← HNX.out.2]; exact hown)
                  have B6 := Lib.hid hB
                  clear hown hB hg hat
                  go_wp2_with fail
                  go_roundw
                  case rel => exact ⟨j + 1, n + 1, c6, A6, by have := HLJ.out; omega, rfl, by push_cast; rfl, by rw [← HNX.out.1, HN.out], O6.out, B6.out⟩
                  case measure => simp [intOf]; have := HLJ.out; omega
          · obtain rfl : j = Kb := by omega
            have hE := HJE.out
            have hP := HP.out
            rw [hP.1, hP.2.1, HC.out.2.2, HC.out.1] at hE
            obtain rfl : n = M := by rw [hn, hE.1]
            rw [hE.2] at ho
            have HWA := Lib.hid (has_own ho)
            have HWB := Lib.hid (has_own (pw_own_below (pw_own_below O3.out (Below.refl _ _)) (hb.mono (Nat.le_refl _))))
            have hcap := own_cap ho
            have HCAP := Lib.hid hcap
            clear hE hP ho hb hj hlj hn hcap
            go_wp2_with fail
            refine (same_at n _ _ _ _ _ _ HWA.out HWB.out HMS.out HCAP.out (Nat.le_refl _)).mono ?_; rintro e w8 ⟨rfl, hb⟩
            have B8 := Lib.hid (below_then (below_then B3.out B3.out.size HR.out) (Nat.le_trans B3.out.size HR.out.size) hb)
            clear hb
            go_wp2_with fail
            refine (wakes_any _).mono ?_; rintro e w9 ⟨rfl, hb⟩
            have B9 := Lib.hid (below_then B8.out B8.out.size hb)
            clear hb
            go_wp2_with fail
            go_ret
            exact ⟨rfl, B9.out⟩
  · have dm : decide ((65536 : Int) < (N : Int)) = true := decide_eq_true (by omega)
    have HK := Lib.hid (show cutK O N = 0 from if_neg (fun h => hm h.1))
    clear hm
    go_enter Try.func5, Try.ntmps5
    go_wp2_with fail
    refine (cut_at _ HB.out.1 HB.out.2.1 HK.out).mono ?_; rintro e w1 ⟨A, cc, rfl, ho, hbl⟩
    have HBL := Lib.hid hbl
    clear ho hbl
    go_wp2_with fail
    refine (wakes_any _).mono ?_; rintro e w2 ⟨rfl, hb2⟩
    have B2 := Lib.hid (below_then HBL.out HBL.out.size hb2)
    clear hb2
    go_wp2_with fail
    go_ret
    exact ⟨rfl, B2.out⟩
end Go.Proofs.Ytgmjpnampjkfeaa.Pie
