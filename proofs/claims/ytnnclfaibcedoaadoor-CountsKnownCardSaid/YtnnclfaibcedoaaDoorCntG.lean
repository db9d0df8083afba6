/- Counts: one page, the document's and the program's, by their contracts (every input). -/
import Derived.BigQuiet
import Derived.BigRegion
import Derived.Test.YtnnclfaibcedoaaDoorCntF
set_option linter.unusedVariables false
set_option linter.unusedSimpArgs false
namespace Go.Proofs.YtnnclfaibcedoaaDoor.Cnt
open Go Go.RowKit Go.Proofs.YtnnclfaibcedoaaDoorW.PrintWords Go.Proofs.YtnnclfaibcedoaaDoorW.PrintLast Go.Proofs.YtnnclfaibcedoaaDoorW.PrintMore Base Odr Hlp Trm

def pgE (cs : List Int) (k : Int) : Int := if 0 ≤ k ∧ k < (np cs.length : Int) then 0 else 1
def pgL (cs : List Int) (k : Int) : List Int := if 0 ≤ k ∧ k < (np cs.length : Int) then page cs k.toNat else []
theorem pad_page (cs : List Int) (k : Nat) (hk : 240 * k < cs.length) (hi : Nat) (hh : hi = min cs.length (240 * (k + 1))) : pad ((cs.take hi).drop (240 * k)) = page cs k := by
  have hl : ((cs.take hi).drop (240 * k)).length = hi - 240 * k := by rw [List.length_drop, List.length_take]; omega
  apply List.ext_getElem (by rw [pad_length _ (by omega), page_length])
  intro j h1 h2
  have hj : j < 240 := by rw [page_length] at h2; exact h2
  rw [page_get]
  simp only [pad, List.getElem_append]
  split
  · rename_i h3
    rw [List.getElem_drop, List.getElem_take, List.getD_eq_getElem?_getD, List.getElem?_eq_getElem (show 240 * k + j < cs.length by omega)]
    rfl
  · rename_i h3
    rw [List.getElem_replicate, List.getD_eq_getElem?_getD, List.getElem?_eq_none (by omega)]
    rfl
set_option maxRecDepth 100000 in
set_option maxHeartbeats 1600000 in
theorem rpage_at {A : Option Addr} {n c : Nat} {cs l : List Int} {k er : Int} (w : World) (HR : ReadsInt w .u8 A n cs) (hn : n ≤ 140737488351232) (h1 : -9223372036854775808 ≤ k) (h2 : k ≤ 9223372036854775807) (he : pgE cs k = er) (hl : pgL cs k = l) :
    Calls Tryd.prog 14 #[.slice A n c, .int .i64 k] w fun e w' => ∃ A' m c', e = .returned (.tuple #[.slice A' m c', .int .i64 er]) ∧ ReadsInt w' .u8 A' m l ∧ Below w.heap.size w w' := by
  have R0 := Lib.hid HR
  have L0 := Lib.hid HR.1
  have HN := Lib.hid hn
  have HE := Lib.hid he
  have HL := Lib.hid hl
  clear HR hn he hl
  go_enter Tryd.func14, Tryd.ntmps14
  go_wp2_with fail
  refine (rput_any A n c cs w R0.out HN.out).mono ?_; rintro e w1 ⟨A1, c1, qs, rfl, hq, ho, hm, hb⟩
  obtain ⟨m, hmm⟩ : ∃ m, np n = m := ⟨_, rfl⟩
  rw [hmm] at ho hq ⊢
  have MM := Lib.hid hmm
  have OQ := Lib.hid ho
  have QL := Lib.hid hq
  have HM := Lib.hid hm
  have HB := Lib.hid hb
  have mb : (m : Int) ≤ 140737488351232 := by rw [← hmm]; unfold np; have := HN.out; omega
  clear hq ho hm hb hmm
  by_cases h0 : k < 0
  · have d0 : decide (k < 0) = true := decide_eq_true h0
    have e1 : pgE cs k = 1 := by unfold pgE; rw [if_neg (by omega)]
    have e2 : pgL cs k = [] := by unfold pgL; rw [if_neg (by omega)]
    rw [HE.out] at e1
    rw [HL.out] at e2
    subst e1
    subst e2
    clear h0 h1 h2
    go_wp2_with fail
    go_ret2
    exact ⟨none, 0, 0, rfl, reads_nil _ _ _, HB.out⟩
  · have d0 : decide (k < 0) = false := decide_eq_false h0
    obtain ⟨j, rfl⟩ := Int.eq_ofNat_of_zero_le (show 0 ≤ k by omega)
    by_cases hj : j < m
    · have d1 : decide ((m : Int) ≤ (j : Int)) = false := decide_eq_false (by omega)
      have e1 : pgE cs (j : Int) = 0 := by unfold pgE; rw [if_pos (by have := MM.out; have := L0.out; subst this; omega)]
      have e2 : pgL cs (j : Int) = page cs j := by unfold pgL; rw [if_pos (by have := MM.out; have := L0.out; subst this; omega)]; rfl
      rw [HE.out] at e1
      rw [HL.out] at e2
      subst e1
      subst e2
      obtain ⟨Ae, ce, ee, hrp⟩ := OQ.out.reads
      injection ee with ee1 ee2 ee3
      subst ee1
      clear ee2 ee3
      obtain ⟨a, p, rfl, hpj, hc, hr⟩ := hrp.get j (by rw [QL.out]; exact hj)
      obtain ⟨pa, pn, pc, pb⟩ := p
      have hpb : pb = page cs j := by
        have h1 : (qs.map Pg.bs)[j]? = (pgs cs)[j]? := by rw [HM.out]
        rw [List.getElem?_map, hpj] at h1
        unfold pgs at h1
        rw [List.getElem?_map, L0.out, MM.out, List.getElem?_range hj] at h1
        simpa using h1
      have HRP := Lib.hid hr
      have PB := Lib.hid hpb
      dsimp only at hc
      have dj : decide ((j : Int) < (m : Int)) = true := decide_eq_true (by omega)
      clear hrp hpj hr hpb h0 h1 h2
      go_wp2_with fail
      go_ret2
      exact ⟨pa, pn, pc, rfl, by have := HRP.out; rw [PB.out] at this; exact this, HB.out⟩
    · have d1 : decide ((m : Int) ≤ (j : Int)) = true := decide_eq_true (by omega)
      have d1' : decide (m ≤ j) = true := decide_eq_true (by omega)
      have e1 : pgE cs (j : Int) = 1 := by unfold pgE; rw [if_neg (by have := MM.out; have := L0.out; subst this; omega)]
      have e2 : pgL cs (j : Int) = [] := by unfold pgL; rw [if_neg (by have := MM.out; have := L0.out; subst this; omega)]
      rw [HE.out] at e1
      rw [HL.out] at e2
      subst e1
      subst e2
      clear h0 h1 h2 hj
      go_wp2_with fail
      go_ret2
      exact ⟨none, 0, 0, rfl, reads_nil _ _ _, HB.out⟩
set_option maxRecDepth 100000 in
set_option maxHeartbeats 1600000 in
theorem page_at {A : Option Addr} {n c : Nat} {cs l : List Int} {k er : Int} (w : World) (HR : ReadsInt w .u8 A n cs) (hc : n ≤ c) (hn : n ≤ 140737488351232) (h1 : -9223372036854775808 ≤ k) (h2 : k ≤ 9223372036854775807) (he : pgE cs k = er) (hl : pgL cs k = l) :
    Calls Tryd.prog 13 #[.slice A n c, .int .i64 k] w fun e w' => ∃ A' m c', e = .returned (.tuple #[.slice A' m c', .int .i64 er]) ∧ ReadsInt w' .u8 A' m l ∧ Below w.heap.size w w' := by
  have R0 := Lib.hid HR
  have L0 := Lib.hid HR.1
  have HN := Lib.hid hn
  have HE := Lib.hid he
  have HL := Lib.hid hl
  have CC := Lib.hid hc
  clear HR he hl hc
  go_enter Tryd.func13, Tryd.ntmps13
  by_cases h0 : k < 0
  · have d0 : decide (k < 0) = true := decide_eq_true h0
    have e1 : pgE cs k = 1 := by unfold pgE; rw [if_neg (by omega)]
    have e2 : pgL cs k = [] := by unfold pgL; rw [if_neg (by omega)]
    rw [HE.out] at e1
    rw [HL.out] at e2
    subst e1
    subst e2
    clear h0 h1 h2 hn
    go_wp2_with fail
    go_ret2
    exact ⟨none, 0, 0, rfl, reads_nil _ _ _, Below.refl _ _⟩
  · have d0 : decide (k < 0) = false := decide_eq_false h0
    obtain ⟨j, rfl⟩ := Int.eq_ofNat_of_zero_le (show 0 ≤ k by omega)
    obtain ⟨m, hmm⟩ : ∃ m, np n = m := ⟨_, rfl⟩
    have mb : (m : Int) ≤ 140737488351232 := by rw [← hmm]; unfold np; omega
    have MP := Lib.hid (show pagesN (n : Int) = (m : Int) by rw [pages_np, hmm])
    have MM := Lib.hid hmm
    clear hmm
    by_cases hj : j < m
    · have d1 : decide ((m : Int) ≤ (j : Int)) = false := decide_eq_false (by omega)
      have e1 : pgE cs (j : Int) = 0 := by unfold pgE; rw [if_pos (by have := MM.out; have := L0.out; subst this; omega)]
      have e2 : pgL cs (j : Int) = page cs j := by unfold pgL; rw [if_pos (by have := MM.out; have := L0.out; subst this; omega)]; rfl
      rw [HE.out] at e1
      rw [HL.out] at e2
      subst e1
      subst e2
      obtain ⟨lo, hlo⟩ : ∃ lo, 240 * j = lo := ⟨_, rfl⟩
      obtain ⟨up', hup⟩ : ∃ up', 240 * (j + 1) = up' := ⟨_, rfl⟩
      obtain ⟨hi', hhi⟩ : ∃ hi', min n up' = hi' := ⟨_, rfl⟩
      have hln : lo < n := by have := MM.out; unfold np at this; omega
      have FF := Lib.hid (show 240 * j = lo ∧ hi' = min n (240 * (j + 1)) ∧ hi' - lo ≤ 240 ∧ lo ≤ hi' ∧ lo < n by omega)
      obtain ⟨i0, hi0, hs0⟩ := info8'
      obtain ⟨A', hcut, hrd⟩ := cut_two 24 5 Tryd.underlying24 hi0 hs0 A n c lo hi' (by omega) (by omega) CC.out
      have RD := Lib.hid (hrd w .u8 cs R0.out)
      have g1 : (j : Int) * 240 = (lo : Int) := by omega
      have g2 : ((j : Int) + 1) * 240 = (up' : Int) := by omega
      have g3 : min (n : Int) (up' : Int) = (hi' : Int) := by omega
      have b1 : (lo : Int) ≤ 140737488351232 := by omega
      have b2 : (up' : Int) ≤ 140737488352000 := by omega
      have b3 : (j : Int) ≤ 140737488351232 := by omega
      clear hrd hi0 hs0 hlo hup h0 h1 h2 g3
      by_cases hmu : up' < n
      · have e9 : hi' = up' := by omega
        subst e9
        have dm : ((hi' : Int) < (n : Int)) := by omega
        clear hhi
        go_wp2_with fail
        refine (pages_any _ (by omega) (by omega) MP.out).mono ?_; rintro e w1 ⟨rfl, rfl⟩
        go_wp2_with fail
        refine (padded_at _ A' (hi' - lo) (c - lo) w RD.out FF.out.2.2.1).mono ?_; rintro e w2 ⟨rfl, ho, hb⟩
        have HRP := Lib.hid (reads_own ho)
        have HB := Lib.hid hb
        clear ho hb
        go_wp2_with fail
        go_ret2
        refine ⟨_, 240, 240, rfl, ?_, HB.out⟩
        have := HRP.out
        rw [← FF.out.1, pad_page cs j (by have := FF.out; have := L0.out; omega) hi' (by rw [L0.out]; exact FF.out.2.1)] at this
        exact this
      · have e9 : hi' = n := by omega
        subst e9
        have dm : ¬ ((up' : Int) < (hi' : Int)) := by omega
        clear hhi
        go_wp2_with fail
        refine (pages_any _ (by omega) (by omega) MP.out).mono ?_; rintro e w1 ⟨rfl, rfl⟩
        go_wp2_with fail
        refine (padded_at _ A' (hi' - lo) (c - lo) w RD.out FF.out.2.2.1).mono ?_; rintro e w2 ⟨rfl, ho, hb⟩
        have HRP := Lib.hid (reads_own ho)
        have HB := Lib.hid hb
        clear ho hb
        go_wp2_with fail
        go_ret2
        refine ⟨_, 240, 240, rfl, ?_, HB.out⟩
        have := HRP.out
        rw [← FF.out.1, pad_page cs j (by have := FF.out; have := L0.out; omega) hi' (by rw [L0.out]; exact FF.out.2.1)] at this
        exact this
    · have d1 : decide ((m : Int) ≤ (j : Int)) = true := decide_eq_true (by omega)
      have d1' : decide (m ≤ j) = true := decide_eq_true (by omega)
      have e1 : pgE cs (j : Int) = 1 := by unfold pgE; rw [if_neg (by have := MM.out; have := L0.out; subst this; omega)]
      have e2 : pgL cs (j : Int) = [] := by unfold pgL; rw [if_neg (by have := MM.out; have := L0.out; subst this; omega)]
      rw [HE.out] at e1
      rw [HL.out] at e2
      subst e1
      subst e2
      clear h0 h1 h2 hj
      go_wp2_with fail
      refine (pages_any _ (by omega) (by omega) MP.out).mono ?_; rintro e w1 ⟨rfl, rfl⟩
      go_wp2_with fail
      go_ret2
      exact ⟨none, 0, 0, rfl, reads_nil _ _ _, Below.refl _ _⟩
end Go.Proofs.YtnnclfaibcedoaaDoor.Cnt
