/- The walks of the laws StampSeals and StampOpens: the call returns true, nothing that was there is changed (every input). -/
import Derived.Test.YtilmjclfgjigeaaStpH
set_option linter.unusedVariables false
set_option linter.unusedSimpArgs false
namespace Go.Proofs.Ytilmjclfgjigeaa.Stp
open Go Go.RowKit Go.Proofs.YtilmjclfgjigeaaW.PrintWords Go.Proofs.YtilmjclfgjigeaaW.PrintLast Go.Proofs.YtilmjclfgjigeaaW.PrintMore Base2 Odr
open Crc (more made23)

def sealE (p : List Int) : Int := if p.length ≤ 240 then 0 else 3
def sealR (p : List Int) (at_ kind : Int) : List Int := if p.length ≤ 240 then sealL p at_ kind else []
theorem seal_any (p : List Int) (A : Option Addr) (n c : Nat) (at_ kind : Int) (w : World) (HR : ReadsInt w .u8 A n p) (h0 : 0 ≤ kind) (h1 : kind < 256) :
    Calls Try.prog 22 #[.slice A n c, .int .i64 at_, .int .u8 kind] w fun e w' => ∃ A' c', e = .returned (.tuple #[.slice A' (sealR p at_ kind).length c', .int .i64 (sealE p)]) ∧ w'.ownsRow w.heap.size 5 1 (.slice A' (sealR p at_ kind).length c') (sealR p at_ kind).length (nums .u8 (sealR p at_ kind)) ∧ Below w.heap.size w w' := by
  have hl := HR.1
  by_cases h : n ≤ 240
  · have e1 : sealE p = 0 := if_pos (by omega)
    have e2 : sealR p at_ kind = sealL p at_ kind := if_pos (by omega)
    rw [e1, e2, sealL_length p _ _ (by omega)]
    exact seal_ok p A n c at_ kind w HR h h0 h1
  · have e1 : sealE p = 3 := if_neg (by omega)
    have e2 : sealR p at_ kind = [] := if_neg (by omega)
    rw [e1, e2]
    refine (seal_long p A n c at_ kind w (by omega)).mono ?_
    rintro e w' ⟨rfl, rfl⟩
    exact ⟨none, 0, rfl, own_nil _ _ _ _, Below.refl _ _⟩
theorem rseal_any (p : List Int) (A : Option Addr) (n c : Nat) (at_ kind : Int) (w : World) (HR : ReadsInt w .u8 A n p) (h0 : 0 ≤ kind) (h1 : kind < 256) :
    Calls Try.prog 23 #[.slice A n c, .int .i64 at_, .int .u8 kind] w fun e w' => ∃ A' c', e = .returned (.tuple #[.slice A' (sealR p at_ kind).length c', .int .i64 (sealE p)]) ∧ w'.ownsRow w.heap.size 5 1 (.slice A' (sealR p at_ kind).length c') (sealR p at_ kind).length (nums .u8 (sealR p at_ kind)) ∧ Below w.heap.size w w' := by
  have hl := HR.1
  by_cases h : n ≤ 240
  · have e1 : sealE p = 0 := if_pos (by omega)
    have e2 : sealR p at_ kind = sealL p at_ kind := if_pos (by omega)
    rw [e1, e2, sealL_length p _ _ (by omega)]
    exact rseal_ok p A n c at_ kind w HR h h0 h1
  · have e1 : sealE p = 3 := if_neg (by omega)
    have e2 : sealR p at_ kind = [] := if_neg (by omega)
    rw [e1, e2]
    refine (rseal_long p A n c at_ kind w (by omega)).mono ?_
    rintro e w' ⟨rfl, rfl⟩
    exact ⟨none, 0, rfl, own_nil _ _ _ _, Below.refl _ _⟩
theorem sealR_length (p : List Int) (at_ kind : Int) : (sealR p at_ kind).length ≤ 256 := by
  unfold sealR; split
  · rename_i h; rw [sealL_length p _ _ h]; exact Nat.le_refl _
  · exact Nat.zero_le _
theorem openL_length (b : List Int) (at_ kind : Int) : (openL b at_ kind).length ≤ 256 := by
  unfold openL; split
  · rw [List.length_take]; omega
  · exact Nat.zero_le _

set_option maxRecDepth 100000 in
set_option maxHeartbeats 3200000 in
theorem seals_walk (A : Option Addr) (c : Nat) (l : List Int) (w : World) (hr : ReadsInt w .u8 A l.length l) (hl : l.length * 1 ≤ 140737488351232) (hw : ∀ x ∈ l, (Lit.int .u8 x).wf = true) (hc : l.length ≤ c)
    (at_ : Int) (wat : (Lit.int .i64 at_).wf = true) (kind : Int) (wk : (Lit.int .u8 kind).wf = true) :
    Calls Try.prog 10 #[.slice A l.length c, .int .i64 at_, .int .u8 kind] w fun e w' => e = .returned (.bool true) ∧ Below w.heap.size w w' := by
  obtain ⟨k0, k1⟩ := le_of_wf8 wk
  have HR := Lib.hid hr
  have HW := Lib.hid hw
  have HC := Lib.hid hc
  obtain ⟨L, hL, hLl⟩ : ∃ L, sealR l at_ kind = L ∧ L.length ≤ 256 := ⟨_, rfl, sealR_length _ _ _⟩
  obtain ⟨er, her⟩ : ∃ er, sealE l = er := ⟨_, rfl⟩
  obtain ⟨N, hN⟩ : ∃ N, N = l.length := ⟨_, rfl⟩
  obtain ⟨M, hM⟩ : ∃ M, M = L.length := ⟨_, rfl⟩
  rw [← hM] at hLl
  rw [← hN] at HR HC hl ⊢
  have HL := Lib.hid hL
  have HER := Lib.hid her
  have HN := Lib.hid hN
  have HM := Lib.hid hM
  clear hr hw hc wat wk hL her hN hM
  go_enter Try.func10, Try.ntmps10
  go_wp2_with (at_builtin; refine print_append_row (w0 := w) w.heap.size rfl _ _ 23 5 .u8 1 rfl Try.underlying23 info8 (by omega) (.slice none 0 0) [] l A N c rfl rfl (own_nil _ _ _ _) HR.out (Below.refl _ _) (Nat.le_refl _) (by simp; omega) ?_)
  intro v1 w1 hown hb hg hat
  have hown' : w1.ownsRow w.heap.size 5 1 v1 N (nums .u8 l) := by rw [HN.out]; simpa using hown
  obtain ⟨A1, c1, rfl⟩ := own_slice hown'
  have hc1 := own_cap hown'
  have HC1 := Lib.hid hc1
  have R1 := Lib.hid (reads_of_own hown' HN.out.symm rfl)
  have R2 := Lib.hid (ReadsInt.below HR.out hb)
  have B1 := Lib.hid hb
  clear hown hown' hb hg hat hc1
  go_wp2_with fail
  refine (seal_any l _ N _ at_ kind _ R1.out k0 k1).mono ?_
  rintro e w2 ⟨A2, c2, rfl, ho2, hb2⟩
  rw [HL.out, ← HM.out] at ho2
  rw [HL.out, ← HM.out, HER.out]
  have HO2 := Lib.hid ho2
  have B2 := Lib.hid hb2
  clear ho2 hb2
  go_wp2_with fail
  refine (rseal_any l _ N _ at_ kind _ (ReadsInt.below R2.out B2.out) k0 k1).mono ?_
  rintro e w3 ⟨A3, c3, rfl, ho3, hb3⟩
  rw [HL.out, ← HM.out] at ho3
  rw [HL.out, ← HM.out, HER.out]
  have HO3 := Lib.hid ho3
  have HOW := Lib.hid (pw_own_below HO2.out hb3)
  have B3 := Lib.hid (below_then B2.out B2.out.size hb3)
  have hs1 := string_of_reads (c := c2) Try.underlying23 Try.underlying5 Try.underlying9 (reads_of_own HOW.out HM.out.symm rfl)
  have hs2 := string_of_reads (c := c3) Try.underlying23 Try.underlying5 Try.underlying9 (reads_of_own HO3.out HM.out.symm rfl)
  clear ho3 hb3
  go_wp2_with fail
  clear hs1 hs2
  go_loopw [12] (fun i wr => ∃ k : Nat, k ≤ M ∧ i = .int .i64 k ∧ (∃ xs : List Int, wr.ownsRow w1.heap.size 5 1 (.slice A2 M c2) M (nums .u8 xs)) ∧ Below w1.heap.size w1 wr) (fun i _ => M - (intOf i).toNat)
  case atStart => exact ⟨0, by omega, rfl, ⟨L, HOW.out⟩, B3.out⟩
  case round =>
    obtain ⟨k, hk, rfl, ⟨xs, ho⟩, hb⟩ := hrel
    have HO := Lib.hid ho
    have HB := Lib.hid hb
    clear ho hb
    by_cases hlt : k < M
    · obtain ⟨g, c', he, hgb, -⟩ := HO.out.form (by omega)
      injection he with he1 he2 he3
      subst he1; subst he3
      have hat := own_at HO.out (k : Int) (by omega) (by omega)
      have ea : wr.cell? ⟨g, k, none⟩ = some (.int .u8 (rd xs k)) := hat.1
      have eb : wr.frozen? ⟨g, k, none⟩ = false := hat.2
      have HGB := Lib.hid hgb
      clear hat he2 hgb
      go_wp2_with fail
      go_roundw
      case rel =>
        exact ⟨k + 1, by omega, by go_num, ⟨_, (own_store HO.out (k : Int) _).1⟩, HB.out.setCell HGB.out _⟩
      case measure => simp [intOf]; omega
    · obtain rfl : k = M := by omega
      have hs1 := string_of_reads (c := c1) Try.underlying23 Try.underlying5 Try.underlying9 (ReadsInt.below R1.out HB.out)
      have hs2 := string_of_reads (c := c) Try.underlying23 Try.underlying5 Try.underlying9 (ReadsInt.below R2.out HB.out)
      go_wp2_with fail
      refine (wakes_any _).mono ?_
      rintro e w4 ⟨rfl, hb4⟩
      have B5 := Lib.hid (below_then B1.out B1.out.size (below_then HB.out HB.out.size hb4))
      clear hb4
      go_wp2_with fail
      go_ret
      exact ⟨rfl, B5.out⟩

set_option maxRecDepth 100000 in
set_option maxHeartbeats 3200000 in
theorem opens_walk (A : Option Addr) (c : Nat) (l : List Int) (w : World) (hr : ReadsInt w .u8 A l.length l) (hl : l.length * 1 ≤ 140737488351232) (hw : ∀ x ∈ l, (Lit.int .u8 x).wf = true) (hc : l.length ≤ c)
    (at_ : Int) (wat : (Lit.int .i64 at_).wf = true) (kind : Int) (wk : (Lit.int .u8 kind).wf = true) :
    Calls Try.prog 11 #[.slice A l.length c, .int .i64 at_, .int .u8 kind] w fun e w' => e = .returned (.bool true) ∧ Below w.heap.size w w' := by
  obtain ⟨k0, k1⟩ := le_of_wf8 wk
  have HR := Lib.hid hr
  have HW := Lib.hid hw
  have HC := Lib.hid hc
  obtain ⟨L, hL, hLl⟩ : ∃ L, openL l at_ kind = L ∧ L.length ≤ 256 := ⟨_, rfl, openL_length _ _ _⟩
  obtain ⟨er, her⟩ : ∃ er, openE l at_ kind = er := ⟨_, rfl⟩
  obtain ⟨N, hN⟩ : ∃ N, N = l.length := ⟨_, rfl⟩
  obtain ⟨M, hM⟩ : ∃ M, M = L.length := ⟨_, rfl⟩
  rw [← hM] at hLl
  rw [← hN] at HR HC hl ⊢
  have HL := Lib.hid hL
  have HER := Lib.hid her
  have HN := Lib.hid hN
  have HM := Lib.hid hM
  clear hr hw hc wat wk hL her hN hM
  go_enter Try.func11, Try.ntmps11
  go_wp2_with (at_builtin; refine print_append_row (w0 := w) w.heap.size rfl _ _ 23 5 .u8 1 rfl Try.underlying23 info8 (by omega) (.slice none 0 0) [] l A N c rfl rfl (own_nil _ _ _ _) HR.out (Below.refl _ _) (Nat.le_refl _) (by simp; omega) ?_)
  intro v1 w1 hown hb hg hat
  have hown' : w1.ownsRow w.heap.size 5 1 v1 N (nums .u8 l) := by rw [HN.out]; simpa using hown
  obtain ⟨A1, c1, rfl⟩ := own_slice hown'
  have hc1 := own_cap hown'
  have HC1 := Lib.hid hc1
  have R1 := Lib.hid (reads_of_own hown' HN.out.symm rfl)
  have R2 := Lib.hid (ReadsInt.below HR.out hb)
  have B1 := Lib.hid hb
  clear hown hown' hb hg hat hc1
  go_wp2_with fail
  refine (open_any l _ N _ at_ kind _ R1.out HW.out HC1.out k0 k1).mono ?_
  rintro e w2 ⟨A2, c2, rfl, ho2, hb2⟩
  rw [HL.out, ← HM.out] at ho2
  rw [HL.out, ← HM.out, HER.out]
  have HO2 := Lib.hid ho2
  have B2 := Lib.hid hb2
  clear ho2 hb2
  go_wp2_with fail
  refine (ropen_any l _ N _ at_ kind _ (ReadsInt.below R2.out B2.out) HW.out HC.out k0 k1).mono ?_
  rintro e w3 ⟨A3, c3, rfl, ho3, hb3⟩
  rw [HL.out, ← HM.out] at ho3
  rw [HL.out, ← HM.out, HER.out]
  have HO3 := Lib.hid ho3
  have HOW := Lib.hid (pw_own_below HO2.out hb3)
  have B3 := Lib.hid (below_then B2.out B2.out.size hb3)
  have hs1 := string_of_reads (c := c2) Try.underlying23 Try.underlying5 Try.underlying9 (reads_of_own HOW.out HM.out.symm rfl)
  have hs2 := string_of_reads (c := c3) Try.underlying23 Try.underlying5 Try.underlying9 (reads_of_own HO3.out HM.out.symm rfl)
  clear ho3 hb3
  go_wp2_with fail
  clear hs1 hs2
  go_loopw [12] (fun i wr => ∃ k : Nat, k ≤ M ∧ i = .int .i64 k ∧ (∃ xs : List Int, wr.ownsRow w1.heap.size 5 1 (.slice A2 M c2) M (nums .u8 xs)) ∧ Below w1.heap.size w1 wr) (fun i _ => M - (intOf i).toNat)
  case atStart => exact ⟨0, by omega, rfl, ⟨L, HOW.out⟩, B3.out⟩
  case round =>
    obtain ⟨k, hk, rfl, ⟨xs, ho⟩, hb⟩ := hrel
    have HO := Lib.hid ho
    have HB := Lib.hid hb
    clear ho hb
    by_cases hlt : k < M
    · obtain ⟨g, c', he, hgb, -⟩ := HO.out.form (by omega)
      injection he with he1 he2 he3
      subst he1; subst he3
      have hat := own_at HO.out (k : Int) (by omega) (by omega)
      have ea : wr.cell? ⟨g, k, none⟩ = some (.int .u8 (rd xs k)) := hat.1
      have eb : wr.frozen? ⟨g, k, none⟩ = false := hat.2
      have HGB := Lib.hid hgb
      clear hat he2 hgb
      go_wp2_with fail
      go_roundw
      case rel =>
        exact ⟨k + 1, by omega, by go_num, ⟨_, (own_store HO.out (k : Int) _).1⟩, HB.out.setCell HGB.out _⟩
      case measure => simp [intOf]; omega
    · obtain rfl : k = M := by omega
      have hs1 := string_of_reads (c := c1) Try.underlying23 Try.underlying5 Try.underlying9 (ReadsInt.below R1.out HB.out)
      have hs2 := string_of_reads (c := c) Try.underlying23 Try.underlying5 Try.underlying9 (ReadsInt.below R2.out HB.out)
      go_wp2_with fail
      refine (wakes_any _).mono ?_
      rintro e w4 ⟨rfl, hb4⟩
      have B5 := Lib.hid (below_then B1.out B1.out.size (below_then HB.out HB.out.size hb4))
      clear hb4
      go_wp2_with fail
      go_ret
      exact ⟨rfl, B5.out⟩
end Go.Proofs.Ytilmjclfgjigeaa.Stp
