/- Counts: the program's Take, by its contract (every input). -/
import Derived.BigQuiet
import Derived.BigRegion
import Derived.Test.YtnnclfaibcedoaaDoorCntH
set_option linter.unusedVariables false
set_option linter.unusedSimpArgs false
namespace Go.Proofs.YtnnclfaibcedoaaDoor.Cnt
open Go Go.RowKit Go.Proofs.YtnnclfaibcedoaaDoorW.PrintWords Go.Proofs.YtnnclfaibcedoaaDoorW.PrintLast Go.Proofs.YtnnclfaibcedoaaDoorW.PrintMore Base Odr Hlp Trm

/-- What Take gives: numbers of the call's own. -/
def GotA (w : World) (er : Int) (l : List Int) (e : Ending) (w' : World) : Prop := ∃ A' m C, e = .returned (.tuple #[.slice A' m m, .int .i64 er]) ∧ w'.ownsRow w.heap.size 5 1 (.slice A' m C) m (nums .u8 l) ∧ Below w.heap.size w w'
theorem flat_snoc {L : List (List Int)} {j : Nat} {x : List Int} (h : L[j]? = some x) : (L.take (j + 1)).flatten = (L.take j).flatten ++ x := by
  rw [List.take_add_one, h, List.flatten_append]
  simp
theorem got_none {w w' : World} {er : Int} (hb : Below w.heap.size w w') : GotA w er [] (.returned (.tuple #[.slice none 0 0, .int .i64 er])) w' := ⟨none, 0, 0, rfl, own_nil _ _ _ _, hb⟩
set_option maxRecDepth 100000 in
set_option maxHeartbeats 3200000 in
theorem take_at {A : Option Addr} {n c : Nat} {ps : List Pg} {b er : Int} {l : List Int} (w : World) (HR : ReadsP w A n ps) (h1 : -9223372036854775808 ≤ b) (h2 : b ≤ 9223372036854775807) (he : tkE (ps.map Pg.bs) b = er) (hl : tkL (ps.map Pg.bs) b = l) :
    Calls Tryd.prog 8 #[.slice A n c, .int .i64 b] w (GotA w er l) := by
  have R0 := Lib.hid HR
  have L0 := Lib.hid HR.row.1
  have HE := Lib.hid he
  have HL := Lib.hid hl
  have N9 := Lib.hid HR.row.2.1
  clear HR he hl
  go_enter Tryd.func8, Tryd.ntmps8
  by_cases hb0 : b < 0
  · have d0 : decide (b < 0) = true := decide_eq_true hb0
    obtain ⟨e1, e2⟩ := tk_arg (L := ps.map Pg.bs) (b := b) (.inl hb0)
    rw [HE.out] at e1
    rw [HL.out] at e2
    subst e1
    subst e2
    clear hb0 h1 h2
    go_wp2_with fail
    go_ret2
    exact got_none (Below.refl _ _)
  have d0 : decide (b < 0) = false := decide_eq_false hb0
  by_cases hb1 : 1024 < b
  · have d1 : decide (1024 < b) = true := decide_eq_true hb1
    obtain ⟨e1, e2⟩ := tk_arg (L := ps.map Pg.bs) (b := b) (.inr hb1)
    rw [HE.out] at e1
    rw [HL.out] at e2
    subst e1
    subst e2
    clear hb0 hb1 h1 h2
    go_wp2_with fail
    go_ret2
    exact got_none (Below.refl _ _)
  have d1 : decide (1024 < b) = false := decide_eq_false hb1
  obtain ⟨B, rfl⟩ := Int.eq_ofNat_of_zero_le (show 0 ≤ b by omega)
  obtain ⟨m, hmm⟩ : ∃ m, np B = m := ⟨_, rfl⟩
  have MP := Lib.hid (show pagesN (B : Int) = (m : Int) by rw [pages_np, hmm])
  have MM := Lib.hid hmm
  have m5 : m ≤ 5 := by rw [← hmm]; unfold np; omega
  have M5 := Lib.hid m5
  have B5 := Lib.hid (show B ≤ 1024 ∧ B ≤ 240 * m by rw [← hmm]; unfold np; omega)
  clear hmm hb0 hb1 h1 h2
  by_cases hs : n < m
  · have d2 : decide (n < m) = true := decide_eq_true hs
    have d2' : decide ((n : Int) < (m : Int)) = true := decide_eq_true (by omega)
    obtain ⟨e1, e2⟩ := tk_short (L := ps.map Pg.bs) B5.out.1 (by rw [List.length_map, L0.out, MM.out]; exact hs)
    rw [HE.out] at e1
    rw [HL.out] at e2
    subst e1
    subst e2
    clear hs m5
    go_wp2_with fail
    refine (pages_any _ (by have := B5.out; omega) (by have := B5.out; omega) MP.out).mono ?_; rintro e w1 ⟨rfl, rfl⟩
    go_wp2_with fail
    go_ret2
    exact got_none (Below.refl _ _)
  have d2 : decide (n < m) = false := decide_eq_false hs
  have d2' : decide ((n : Int) < (m : Int)) = false := decide_eq_false (by omega)
  by_cases hg : m < n
  · have d3 : decide (m < n) = true := decide_eq_true hg
    have d3' : decide ((m : Int) < (n : Int)) = true := decide_eq_true (by omega)
    obtain ⟨e1, e2⟩ := tk_long (L := ps.map Pg.bs) B5.out.1 (by rw [List.length_map, L0.out, MM.out]; exact hg)
    rw [HE.out] at e1
    rw [HL.out] at e2
    subst e1
    subst e2
    clear hs hg m5
    go_wp2_with fail
    refine (pages_any _ (by have := B5.out; omega) (by have := B5.out; omega) MP.out).mono ?_; rintro e w1 ⟨rfl, rfl⟩
    go_wp2_with fail
    refine (pages_any _ (by have := B5.out; omega) (by have := B5.out; omega) MP.out).mono ?_; rintro e w1 ⟨rfl, rfl⟩
    go_wp2_with fail
    go_ret2
    exact got_none (Below.refl _ _)
  have d3 : decide (m < n) = false := decide_eq_false hg
  have d3' : decide ((m : Int) < (n : Int)) = false := decide_eq_false (by omega)
  obtain rfl : m = n := by omega
  clear hs hg
  go_wp2_with fail
  refine (pages_any _ (by have := B5.out; omega) (by have := B5.out; omega) MP.out).mono ?_; rintro e w1 ⟨rfl, rfl⟩
  go_wp2_with fail
  refine (pages_any _ (by have := B5.out; omega) (by have := B5.out; omega) MP.out).mono ?_; rintro e w1 ⟨rfl, rfl⟩
  go_wp2_with fail
  clear d0 d1 d2 d2' d3 d3'

  have QL := Lib.hid (show (ps.map Pg.bs).length = np B by rw [List.length_map, L0.out, MM.out])
  go_loopw [6, 30] (fun v iv wr => ∃ (j N : Nat) (A' : Option Addr) (c' : Nat), j ≤ m ∧ iv = .int .i64 (j : Int) ∧ N = 240 * j ∧ v = .slice A' N c' ∧ (((ps.map Pg.bs).take j).flatten).length = N ∧ wr.ownsRow w.heap.size 5 1 (.slice A' N c') N (nums .u8 (((ps.map Pg.bs).take j).flatten)) ∧ Below w.heap.size w wr ∧ (∀ (i : Nat) (x : List Int), i < j → (ps.map Pg.bs)[i]? = some x → x.length = 240)) (fun _ iv _ => m - (intOf iv).toNat)
  case atStart => exact ⟨0, 0, none, 0, by omega, rfl, rfl, rfl, rfl, own_nil _ _ _ _, Below.refl _ _, fun i x hi => absurd hi (by omega)⟩
  case round =>
    obtain ⟨j, N, A', c', hj, rfl, hN, rfl, hfl, hown, hbw, hall⟩ := hrel
    have HA := Lib.hid hall
    have BW := Lib.hid hbw
    have OO := Lib.hid hown
    have NN := Lib.hid hN
    have FL := Lib.hid hfl
    have CAP := Lib.hid (own_cap hown)
    clear hall hbw hown hN hfl
    by_cases hlt : j < m
    · have dk : decide ((j : Int) < (m : Int)) = true := decide_eq_true (by omega)
      obtain ⟨a, p, rfl, hpj, hc, hr⟩ := (R0.out.below BW.out).get j hlt
      obtain ⟨pa, pn, pc, pb⟩ := p
      dsimp only at hc hr
      have PJ := Lib.hid (bs_at hpj)
      have PN := Lib.hid hr.1
      have PR := Lib.hid hr
      have JJ := Lib.hid hlt
      clear hpj hr hj
      by_cases h240 : pn = 240
      · have dn : ((pn : Int) != 240) = false := by rw [h240]; rfl
        have H2 := Lib.hid h240
        clear h240
        go_wp2_with (at_builtin; refine print_append_row (w0 := w) (W := wr) w.heap.size rfl _ _ 24 5 .u8 1 rfl Tryd.underlying24 info8 (by omega) (.slice A' N c') (((ps.map Pg.bs).take j).flatten) pb pa pn pc rfl rfl (by rw [FL.out]; exact OO.out) PR.out BW.out BW.out.size (by rw [FL.out]; have := NN.out; have := M5.out; have := JJ.out; have := H2.out; omega) ?_)
        intro v5 w5 hown hb5 hg5 hat
        obtain ⟨N', hN'⟩ : ∃ N', 240 * (j + 1) = N' := ⟨_, rfl⟩
        have hl5 : (((ps.map Pg.bs).take (j + 1)).flatten).length = N' := by rw [flat_snoc PJ.out, List.length_append, FL.out, PN.out]; have := NN.out; have := H2.out; omega
        have hown' : w5.ownsRow w.heap.size 5 1 v5 N' (nums .u8 (((ps.map Pg.bs).take (j + 1)).flatten)) := by
          rw [← hl5, flat_snoc PJ.out]
          simpa using hown
        obtain ⟨A5, c5, rfl⟩ := own_slice hown'
        have O5 := Lib.hid hown'
        have B5' := Lib.hid hb5
        have NN' := Lib.hid hN'
        have FL5 := Lib.hid hl5
        clear hown hown' hb5 hg5 hat hN' hl5
        go_wp2_with fail
        go_roundw
        case rel =>
          refine ⟨j + 1, N', A5, c5, JJ.out, by push_cast; rfl, NN'.out.symm, rfl, FL5.out, O5.out, B5'.out, fun i x hi hx => ?_⟩
          rcases Nat.lt_or_ge i j with hij | hij
          · exact HA.out i x hij hx
          · obtain rfl : i = j := by omega
            rw [PJ.out] at hx
            injection hx with hx
            subst hx
            exact PN.out.trans H2.out
        case measure => have := JJ.out; simp [intOf]; omega
      · have dn : ((pn : Int) != 240) = true := by simp; omega
        obtain ⟨e1, e2⟩ := tk_form (L := ps.map Pg.bs) B5.out.1 QL.out (not_full PJ.out (by have := PN.out; dsimp only at this ⊢; omega) _)
        rw [HE.out] at e1
        rw [HL.out] at e2
        subst e1
        subst e2
        clear h240
        go_wp2_with fail
        go_ret2
        exact got_none BW.out
    · obtain rfl : j = m := by omega
      have dk : decide ((j : Int) < (j : Int)) = false := decide_eq_false (by omega)
      have FU := Lib.hid (full_of (L := ps.map Pg.bs) (fun i x hx => HA.out i x (by have := (List.getElem?_eq_some_iff.1 hx).1; rw [List.length_map, L0.out] at this; exact this) hx))
      have hta : (ps.map Pg.bs).take j = ps.map Pg.bs := List.take_of_length_le (by rw [List.length_map, L0.out]; omega)
      rw [hta] at OO FL
      obtain ⟨F, hF⟩ : ∃ F, (ps.map Pg.bs).flatten = F := ⟨_, rfl⟩
      have HF := Lib.hid hF
      rw [hF] at OO FL
      have hBN : B ≤ N := by have := NN.out; have := B5.out; omega
      have hNc : N ≤ c' := CAP.out
      obtain ⟨i0, hi0, hs0⟩ := info8'
      obtain ⟨A13, hcut, hr13⟩ := print_cut (P := Tryd.prog) 24 5 .i64 Tryd.underlying24 hi0 hs0 A' N c' B hBN
      have RZ := Lib.hid (show ReadsInt wr .u8 A13 (N - B) (F.drop B) from hr13 _ _ _ hNc (reads_own OO.out))
      have b9 : (B : Int) ≤ 1024 := by have := B5.out; omega
      have b8 : (N : Int) ≤ 1200 := by have := NN.out; have := M5.out; omega
      have BN := Lib.hid hBN
      clear hr13 hi0 hs0 hlt hj hF dk hta
      go_wp2_with fail
      refine (trim0 (F.drop B) A13 (N - B) (c' - B) _ RZ.out (by omega)).mono ?_; rintro e w14 ⟨⟨A14, m14, c14, rfl, -, hq⟩, hb⟩
      have O14 := Lib.hid (pw_own_below OO.out hb)
      have B14 := Lib.hid (below_then BW.out BW.out.size hb)
      clear hb
      by_cases hz : zeros (F.drop B) = true
      · obtain rfl : m14 = 0 := hq.2 hz
        obtain ⟨e1, e2⟩ := tk_ok (L := ps.map Pg.bs) B5.out.1 QL.out FU.out (by rw [HF.out]; exact hz)
        rw [HE.out] at e1
        rw [HL.out, HF.out] at e2
        subst e1
        have E2 := Lib.hid e2
        clear hq hz e2
        go_wp2_with fail
        go_ret2
        refine ⟨A', B, c', rfl, ?_, B14.out⟩
        have h9 := own_take O14.out BN.out
        rw [Nat.mul_one] at h9
        have e9 : (nums .u8 F).take B = nums .u8 (F.take B) := by unfold nums; rw [List.map_take]
        rw [e9, ← E2.out] at h9
        exact h9
      · have hm : m14 ≠ 0 := fun h => hz (hq.1 h)
        have dm : decide (0 < (m14 : Int)) = true := decide_eq_true (by omega)
        have dm' : decide (0 < m14) = true := decide_eq_true (by omega)
        obtain ⟨e1, e2⟩ := tk_form (L := ps.map Pg.bs) B5.out.1 QL.out (by rw [HF.out, Bool.eq_false_iff.2 hz, Bool.and_false])
        rw [HE.out] at e1
        rw [HL.out] at e2
        subst e1
        subst e2
        clear hq hz hm
        go_wp2_with fail
        go_ret2
        exact got_none B14.out
end Go.Proofs.YtnnclfaibcedoaaDoor.Cnt
