/- Counts: there and back, plain; the walk of CountsBack. -/
import Derived.BigQuiet
import Derived.Test.YtnnclfaibcedoaaDoorCntL
set_option linter.unusedVariables false
set_option linter.unusedSimpArgs false
namespace Go.Proofs.YtnnclfaibcedoaaDoor.Cnt
open Go Go.RowKit Go.Proofs.YtnnclfaibcedoaaDoorW.PrintWords Go.Proofs.YtnnclfaibcedoaaDoorW.PrintLast Go.Proofs.YtnnclfaibcedoaaDoorW.PrintMore Base Odr Hlp Trm

theorem pgs_full (c : List Int) : full (pgs c) = true := full_of fun j l h => by
  unfold pgs at h
  rw [List.getElem?_map] at h
  cases hr : (List.range (np c.length))[j]? with
  | none => rw [hr] at h; cases h
  | some x => rw [hr] at h; injection h with h; rw [← h]; exact page_length _ _
theorem pgs_get (c : List Int) (i : Nat) (hi : i < 240 * np c.length) : (pgs c).flatten.getD i 0 = c.getD i 0 := by
  have hk : i / 240 < np c.length := by omega
  have h := flat_get (pgs c) (pgs_full c) (i / 240) (i % 240) (page c (i / 240)) (by unfold pgs; rw [List.getElem?_map, List.getElem?_range hk]; rfl) (by omega)
  rw [show 240 * (i / 240) + i % 240 = i by omega] at h
  rw [h, List.getD_eq_getElem?_getD, List.getElem?_eq_getElem (by rw [page_length]; omega)]
  show (page c (i / 240))[i % 240]'(by rw [page_length]; omega) = _
  rw [page_get, show 240 * (i / 240) + i % 240 = i by omega]
theorem pgs_len (c : List Int) : (pgs c).flatten.length = 240 * np c.length := by rw [flat_length _ (pgs_full c), pgs_length]
theorem tk_put {c : List Int} (h : c.length ≤ 1024) : tkE (pgs c) (c.length : Int) = 0 ∧ tkL (pgs c) (c.length : Int) = c := by
  have hl := pgs_len c
  have hn : c.length ≤ 240 * np c.length := by unfold np; omega
  obtain ⟨e1, e2⟩ := tk_ok (L := pgs c) h (pgs_length c) (pgs_full c) (zeros_of fun i h1 h2 => by
    rw [pgs_get c i (by omega), List.getD_eq_getElem?_getD, List.getElem?_eq_none h1]; rfl)
  refine ⟨e1, e2.trans ?_⟩
  apply List.ext_getElem (by rw [List.length_take]; omega)
  intro i h1 h2
  rw [List.getElem_take]
  have h3 := pgs_get c i (by omega)
  rw [List.getD_eq_getElem?_getD, List.getD_eq_getElem?_getD, List.getElem?_eq_getElem (by omega), List.getElem?_eq_getElem h2] at h3
  exact h3
theorem tk_none {L : List (List Int)} {b : Int} (h : tkE L b ≠ 0) : tkL L b = [] := by unfold tkL; rw [if_neg h]
theorem tk_zero {L : List (List Int)} {b : Int} (h : tkE L b = 0) : 0 ≤ b ∧ b ≤ 1024 ∧ L.length = np b.toNat ∧ full L = true ∧ zeros (L.flatten.drop b.toNat) = true := by
  unfold tkE at h
  split at h
  · cases h
  · split at h
    · cases h
    · split at h
      · cases h
      · split at h
        · rename_i h1 h2 h3 h4
          rw [Bool.and_eq_true] at h4
          exact ⟨by omega, by omega, by omega, h4.1, h4.2⟩
        · cases h
theorem zero_at {l : List Int} {B i : Nat} (h : zeros (l.drop B) = true) (hi : B ≤ i) : l.getD i 0 = 0 := by
  by_cases h0 : l.getD i 0 = 0
  · exact h0
  · rw [zeros_not hi h0] at h; cases h
theorem tk_small {L : List (List Int)} {b : Int} (h : tkE L b = 0) : (tkL L b).length ≤ 1024 := by
  obtain ⟨h0, h1, -, -, -⟩ := tk_zero h
  unfold tkL
  rw [if_pos h, List.length_take]
  omega
theorem tk_back {L : List (List Int)} {b : Int} {l : List Int} (h : tkE L b = 0) (hl : tkL L b = l) : (l.length : Int) = b ∧ pgs l = L := by
  obtain ⟨h0, h1, h2, h3, h4⟩ := tk_zero h
  have hF := flat_length L h3
  have hB : b.toNat ≤ 240 * np b.toNat := by unfold np; omega
  unfold tkL at hl
  rw [if_pos h] at hl
  have hll : l.length = b.toNat := by rw [← hl, List.length_take, hF, h2]; omega
  refine ⟨by omega, ?_⟩
  apply List.ext_getElem (by rw [pgs_length, hll, h2])
  intro k hk1 hk2
  have hk : (pgs l)[k] = page l k := by simp [pgs]
  rw [hk]
  have hLk : L[k].length = 240 := by
    have := List.all_eq_true.1 h3 L[k] (List.getElem_mem hk2)
    simpa using this
  apply List.ext_getElem (by rw [page_length, hLk])
  intro j hj1 hj2
  rw [page_get]
  have hg := flat_get L h3 k j L[k] (List.getElem?_eq_getElem hk2) (by omega)
  rw [List.getD_eq_getElem?_getD (l := L[k]), List.getElem?_eq_getElem hj2] at hg
  show _ = L[k][j]
  have hg' : L.flatten.getD (240 * k + j) 0 = L[k][j] := hg
  rw [← hl, getD_take]
  split
  · exact hg'
  · rename_i hx
    rw [← hg', zero_at h4 (by omega)]
set_option maxRecDepth 100000 in
set_option maxHeartbeats 3200000 in
theorem back_walk (A : Option Addr) (c n : Nat) (cs : List Int) (w : World) (HR : ReadsInt w .u8 A n cs) (hn : n ≤ 140737488351232) (hc : n ≤ c) (A' : Option Addr) (n' c' : Nat) (ps : List Pg) (HP : ReadsP w A' n' ps) (hn' : n' * 24 ≤ 140737488351232) (b : Int) (h1 : -9223372036854775808 ≤ b) (h2 : b ≤ 9223372036854775807) :
    Calls Tryd.prog 4 #[.slice A n c, .slice A' n' c', .int .i64 b] w fun e w' => e = .returned (.bool true) ∧ Below w.heap.size w w' := by
  have R0 := Lib.hid HR
  have L0 := Lib.hid HR.1
  have P0 := Lib.hid HP
  have HN := Lib.hid (And.intro hn hn')
  have HC := Lib.hid hc
  have HB := Lib.hid (And.intro h1 h2)
  obtain ⟨m, hm⟩ : ∃ m, np n = m := ⟨_, rfl⟩
  have MM := Lib.hid hm
  obtain ⟨er, he⟩ : ∃ er, tkE (ps.map Pg.bs) b = er := ⟨_, rfl⟩
  obtain ⟨l, hl⟩ : ∃ l, tkL (ps.map Pg.bs) b = l := ⟨_, rfl⟩
  have EL := Lib.hid (And.intro he hl)
  clear HR HP hn' hc h1 h2 hm he hl
  go_enter Tryd.func4, Tryd.ntmps4
  go_wp2_with fail
  refine (put_at (m := m) _ R0.out HC.out hn MM.out).mono ?_; rintro e w1 ⟨A1, c1, qs, rfl, -, -, hr, hq, hb⟩
  have R1 := Lib.hid hr
  have Q1 := Lib.hid hq
  have B1 := Lib.hid hb
  have P1 := Lib.hid (P0.out.below hb)
  have C1 := Lib.hid (R0.out.below hb)
  clear hr hq hb
  go_wp2_with fail
  by_cases hk : n ≤ 1024
  · have dk : decide ((n : Int) ≤ 1024) = true := decide_eq_true (by omega)
    have e1 : tkE (qs.map Pg.bs) (n : Int) = 0 := by rw [Q1.out, ← L0.out]; exact (tk_put (by rw [L0.out]; exact hk)).1
    have e2 : tkL (qs.map Pg.bs) (n : Int) = cs := by rw [Q1.out, ← L0.out]; exact (tk_put (by rw [L0.out]; exact hk)).2
    have hcall := take_at (c := c1) (er := 0) (l := cs) _ R1.out (by omega) (by omega) e1 e2
    refine hcall.mono ?_
    intro e w2 hh
    obtain ⟨A2, m2, C2, rfl, ho, hb⟩ := hh
    have S2 := reads_own ho
    have CX := str_of (c := m2) S2
    have CY := str_of (c := c) (C1.out.below hb)
    have B2 := Lib.hid (below_then B1.out B1.out.size hb)
    have P2 := Lib.hid (P1.out.below hb)
    clear hcall e1 e2 ho hb S2 hk
    go_wp2_with fail
    have hcall := take_at (c := c') (er := er) (l := l) _ P2.out HB.out.1 HB.out.2 EL.out.1 EL.out.2
    refine hcall.mono ?_
    intro e w3 hh
    obtain ⟨A3, m3, C3, rfl, ho, hb⟩ := hh
    have L3 := Lib.hid (got_len ho)
    have m9 : m3 ≤ 9223372036854775807 := (reads_own ho).2.1
    have S3 := Lib.hid (reads_own ho)
    have B3 := Lib.hid (below_then B2.out B2.out.size hb)
    have P3 := Lib.hid (P2.out.below hb)
    clear hcall ho hb
    by_cases h0 : er = 0
    · have de : (er != 0) = false := by rw [h0]; rfl
      obtain ⟨q1, q2⟩ := tk_back (EL.out.1.trans h0) EL.out.2
      have Q2 := Lib.hid q2
      have dm : ((m3 : Int) == b) = true := by rw [← q1, L3.out]; simp
      have hm2 : m3 ≤ 140737488351232 := by have := tk_small (EL.out.1.trans h0); rw [EL.out.2] at this; have := L3.out; omega
      have MM := Lib.hid (show np m3 = n' by rw [← L3.out, ← pgs_length, q2, List.length_map]; exact P0.out.row.1)
      clear h0 q1 q2
      go_wp2_with fail
      refine (put_at (c := m3) (m := n') _ S3.out (Nat.le_refl _) hm2 MM.out).mono ?_; rintro e w4 ⟨A4, c4, rs, rfl, -, -, hr, hq, hb⟩
      have R4 := Lib.hid hr
      have RQ := Lib.hid (hq.trans Q2.out)
      have B4 := Lib.hid (below_then B3.out B3.out.size hb)
      have P4 := Lib.hid (P3.out.below hb)
      clear hr hq hb
      go_wp2_with fail
      refine (same_yes A4 A' n' c4 c' rs ps _ R4.out P4.out (by have := HN.out; omega) RQ.out).mono ?_; rintro e w5 ⟨rfl, hb⟩
      have B5 := Lib.hid (below_then B4.out B4.out.size hb)
      clear hb
      go_wp2_with fail
      refine (wakes_any _).mono ?_; rintro e w6 ⟨rfl, hb⟩
      have B6 := Lib.hid (below_then B5.out B5.out.size hb)
      clear hb
      go_wp2_with fail
      go_ret
      exact ⟨rfl, B6.out⟩
    · have de : (er != 0) = true := by simpa using h0
      obtain rfl : m3 = 0 := by rw [← L3.out, ← EL.out.2, tk_none (fun h => h0 (EL.out.1.symm.trans h))]; rfl
      clear h0
      go_wp2_with fail
      refine (wakes_any _).mono ?_; rintro e w6 ⟨rfl, hb⟩
      have B6 := Lib.hid (below_then B3.out B3.out.size hb)
      clear hb
      go_wp2_with fail
      go_ret
      exact ⟨rfl, B6.out⟩
  · have dk : decide ((n : Int) ≤ 1024) = false := decide_eq_false (by omega)
    obtain ⟨e1, e2⟩ := tk_arg (L := qs.map Pg.bs) (b := (n : Int)) (.inr (by omega))
    have hcall := take_at (c := c1) (er := 1) (l := []) _ R1.out (by omega) (by omega) e1 e2
    refine hcall.mono ?_
    intro e w2 hh
    obtain ⟨A2, m2, C2, rfl, ho, hb⟩ := hh
    obtain rfl : 0 = m2 := got_len ho
    have B2 := Lib.hid (below_then B1.out B1.out.size hb)
    have P2 := Lib.hid (P1.out.below hb)
    clear hcall e1 e2 ho hb hk
    go_wp2_with fail
    have hcall := take_at (c := c') (er := er) (l := l) _ P2.out HB.out.1 HB.out.2 EL.out.1 EL.out.2
    refine hcall.mono ?_
    intro e w3 hh
    obtain ⟨A3, m3, C3, rfl, ho, hb⟩ := hh
    have L3 := Lib.hid (got_len ho)
    have m9 : m3 ≤ 9223372036854775807 := (reads_own ho).2.1
    have S3 := Lib.hid (reads_own ho)
    have B3 := Lib.hid (below_then B2.out B2.out.size hb)
    have P3 := Lib.hid (P2.out.below hb)
    clear hcall ho hb
    by_cases h0 : er = 0
    · have de : (er != 0) = false := by rw [h0]; rfl
      obtain ⟨q1, q2⟩ := tk_back (EL.out.1.trans h0) EL.out.2
      have Q2 := Lib.hid q2
      have dm : ((m3 : Int) == b) = true := by rw [← q1, L3.out]; simp
      have hm2 : m3 ≤ 140737488351232 := by have := tk_small (EL.out.1.trans h0); rw [EL.out.2] at this; have := L3.out; omega
      have MM := Lib.hid (show np m3 = n' by rw [← L3.out, ← pgs_length, q2, List.length_map]; exact P0.out.row.1)
      clear h0 q1 q2
      go_wp2_with fail
      refine (put_at (c := m3) (m := n') _ S3.out (Nat.le_refl _) hm2 MM.out).mono ?_; rintro e w4 ⟨A4, c4, rs, rfl, -, -, hr, hq, hb⟩
      have R4 := Lib.hid hr
      have RQ := Lib.hid (hq.trans Q2.out)
      have B4 := Lib.hid (below_then B3.out B3.out.size hb)
      have P4 := Lib.hid (P3.out.below hb)
      clear hr hq hb
      go_wp2_with fail
      refine (same_yes A4 A' n' c4 c' rs ps _ R4.out P4.out (by have := HN.out; omega) RQ.out).mono ?_; rintro e w5 ⟨rfl, hb⟩
      have B5 := Lib.hid (below_then B4.out B4.out.size hb)
      clear hb
      go_wp2_with fail
      refine (wakes_any _).mono ?_; rintro e w6 ⟨rfl, hb⟩
      have B6 := Lib.hid (below_then B5.out B5.out.size hb)
      clear hb
      go_wp2_with fail
      go_ret
      exact ⟨rfl, B6.out⟩
    · have de : (er != 0) = true := by simpa using h0
      obtain rfl : m3 = 0 := by rw [← L3.out, ← EL.out.2, tk_none (fun h => h0 (EL.out.1.symm.trans h))]; rfl
      clear h0
      go_wp2_with fail
      refine (wakes_any _).mono ?_; rintro e w6 ⟨rfl, hb⟩
      have B6 := Lib.hid (below_then B3.out B3.out.size hb)
      clear hb
      go_wp2_with fail
      go_ret
      exact ⟨rfl, B6.out⟩
theorem back_row (A : Option Addr) (c : Nat) (cs : List Int) (w : World) (HR : ReadsInt w .u8 A cs.length cs) (hn : cs.length * 1 ≤ 140737488351232) (hw : ∀ x ∈ cs, (Lit.int .u8 x).wf = true) (hc : cs.length ≤ c) (A' : Option Addr) (n' c' : Nat) (ps : List Pg) (HP : ReadsP w A' n' ps) (hp : ∀ p ∈ ps, p.n ≤ 140737488351232) (hn' : n' * 24 ≤ 140737488351232) (hw' : ∀ p ∈ ps, ∀ x ∈ p.bs, (Lit.int .u8 x).wf = true) (hc' : n' ≤ c') (b : Int) (wb : (Lit.int .i64 b).wf = true) :
    Calls Tryd.prog 4 #[.slice A cs.length c, .slice A' n' c', .int .i64 b] w fun e w' => e = .returned (.bool true) ∧ Below w.heap.size w w' := back_walk A c cs.length cs w HR (by omega) hc A' n' c' ps HP hn' b (le_of_wf64 wb).1 (le_of_wf64 wb).2
end Go.Proofs.YtnnclfaibcedoaaDoor.Cnt
