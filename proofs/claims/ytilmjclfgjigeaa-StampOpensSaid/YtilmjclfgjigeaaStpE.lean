/- The walks of the laws StampKnown and StampBack: the call returns true, nothing that was there is changed (every input). -/
import Derived.Test.YtilmjclfgjigeaaStpD
set_option linter.unusedVariables false
set_option linter.unusedSimpArgs false
namespace Go.Proofs.Ytilmjclfgjigeaa.Stp
open Go Go.RowKit Go.Proofs.YtilmjclfgjigeaaW.PrintWords Go.Proofs.YtilmjclfgjigeaaW.PrintLast Go.Proofs.YtilmjclfgjigeaaW.PrintMore Base2 Odr
open Crc (more made23)

theorem known_at : (sealL (List.replicate 240 0) (-1) 255)[240]? = some 255 ∧ (sealL (List.replicate 240 0) (-1) 255)[247]? = some 255 ∧ (sealL (List.replicate 240 0) (-1) 255)[248]? = some 0 ∧ (sealL (List.replicate 240 0) (-1) 255)[251]? = some 255 := by decide +kernel
set_option maxRecDepth 100000 in
set_option maxHeartbeats 1600000 in
theorem known_walk (w : World) : Calls Try.prog 14 #[] w fun e w' => e = .returned (.bool true) ∧ Below w.heap.size w w' := by
  have hmk1 : ∀ W : World, (Instr.makeSlice 23 (.int .i64 241) (.int .i64 241)).run Try.prog W = .ok (.slice (some ⟨W.heap.size, 0, none⟩) 241 241) (W.alloc (.cells (madeCells #[.int .u8 0] 241) 5)) := made23 241 (by omega)
  have hmk2 : ∀ W : World, (Instr.makeSlice 23 (.int .i64 240) (.int .i64 240)).run Try.prog W = .ok (.slice (some ⟨W.heap.size, 0, none⟩) 240 240) (W.alloc (.cells (madeCells #[.int .u8 0] 240) 5)) := made23 240 (by omega)
  have hmk3 : ∀ W : World, (Instr.makeSlice 23 (.int .i64 255) (.int .i64 255)).run Try.prog W = .ok (.slice (some ⟨W.heap.size, 0, none⟩) 255 255) (W.alloc (.cells (madeCells #[.int .u8 0] 255) 5)) := made23 255 (by omega)
  have hmk4 : ∀ W : World, (Instr.makeSlice 23 (.int .i64 257) (.int .i64 257)).run Try.prog W = .ok (.slice (some ⟨W.heap.size, 0, none⟩) 257 257) (W.alloc (.cells (madeCells #[.int .u8 0] 257) 5)) := made23 257 (by omega)
  obtain ⟨S, hS⟩ : ∃ S, sealL (List.replicate 240 0) (-1) 255 = S := ⟨_, rfl⟩
  have hz : (List.replicate 240 (0 : Int)).length ≤ 240 := by rw [List.length_replicate]; exact Nat.le_refl _
  obtain ⟨s1, s2, s3, s4⟩ := known_at
  have hsl : S.length = 256 := by rw [← hS]; exact sealL_length _ _ _ hz
  have hw : ∀ x ∈ S, (Lit.int .u8 x).wf = true := by rw [← hS]; exact sealL_wf _ _ _ wf_zeros
  have E1 : openE S (-1) 255 = 0 := by rw [← hS, openE_seal _ _ _ _ _ hz (by decide) (by decide) (by decide) (by decide)]; rfl
  have L1 : openL S (-1) 255 = pad (List.replicate 240 0) := by rw [openL_ok E1, ← hS]; exact seal_pay _ _ _ hz
  have E2 : openE (List.replicate 255 0) 0 0 = 4 := by unfold openE; rw [List.length_replicate]; rfl
  have E3 : openE (List.replicate 257 0) 0 0 = 3 := by unfold openE; rw [List.length_replicate]; rfl
  rw [hS] at s1 s2 s3 s4
  have HS := Lib.hid hS
  have S1 := Lib.hid s1
  have S2 := Lib.hid s2
  have S3 := Lib.hid s3
  have S4 := Lib.hid s4
  have HL := Lib.hid hsl
  have HW := Lib.hid hw
  have F1 := Lib.hid E1
  have F2 := Lib.hid E2
  have F3 := Lib.hid E3
  have G1 := Lib.hid L1
  have HZ := Lib.hid hz
  clear hS s1 s2 s3 s4 hsl hw E1 E2 E3 L1 hz
  go_enter Try.func14, Try.ntmps14
  go_wp2_with fail
  refine (seal_long [] _ 241 _ 0 0 _ (by omega)).mono ?_
  rintro e w' ⟨rfl, rfl⟩
  have B0 := Lib.hid ((Below.refl w.heap.size w).alloc (Nat.le_refl _) (.cells (madeCells #[.int .u8 0] 241) 5))
  go_wp2_with fail
  refine (seal_ok (List.replicate 240 0) _ 240 _ (-1) 255 _ (made_at (by simp) (by omega)) (by omega) (by omega) (by omega)).mono ?_
  rintro e w1 ⟨A1, c1, rfl, ho1, hb1⟩
  obtain ⟨g, c, he, -, -⟩ := ho1.form (by omega)
  injection he with he1 he2 he3
  subst he1; subst he3
  rw [HS.out] at ho1
  have hc := own_cap ho1
  have K1 := own_cell ho1 240 255 (by omega) S1.out
  have K2 := own_cell ho1 247 255 (by omega) S2.out
  have K3 := own_cell ho1 248 0 (by omega) S3.out
  have K4 := own_cell ho1 251 255 (by omega) S4.out
  have R1 := Lib.hid (reads_of_own ho1 HL.out rfl)
  have B1 := Lib.hid (below_then (B0.out.alloc B0.out.size _) (by simp; omega) hb1)
  clear ho1 hb1
  go_wp2_with fail
  refine (open_at S _ R1.out HW.out hc (by omega) (by omega) F1.out G1.out (m := 240) (pad_length _ HZ.out)).mono ?_
  rintro e w2 ⟨A2, c2, rfl, ho2, hb2⟩
  have M1 := pw_cell_below hb2 K1
  have M2 := pw_cell_below hb2 K2
  have M3 := pw_cell_below hb2 K3
  have M4 := pw_cell_below hb2 K4
  have B2 := Lib.hid (below_then B1.out B1.out.size hb2)
  clear ho2 hb2 K1 K2 K3 K4
  go_wp2_with fail
  refine (open_at (List.replicate 255 0) _ (made_at rfl (by omega)) wf_zeros (by omega) (by omega) (by omega) F2.out (openL_no (by rw [F2.out]; decide)) (m := 0) rfl).mono ?_
  rintro e w3 ⟨A3, c3, rfl, ho3, hb3⟩
  have N1 := pw_cell_below hb3 (alloc_cell M1 _)
  have N2 := pw_cell_below hb3 (alloc_cell M2 _)
  have N3 := pw_cell_below hb3 (alloc_cell M3 _)
  have N4 := pw_cell_below hb3 (alloc_cell M4 _)
  have B3 := Lib.hid (below_then (B2.out.alloc B2.out.size _) (by simp; have := B2.out.size; omega) hb3)
  clear ho3 hb3 M1 M2 M3 M4
  go_wp2_with fail
  refine (open_at (List.replicate 257 0) _ (made_at rfl (by omega)) wf_zeros (by omega) (by omega) (by omega) F3.out (openL_no (by rw [F3.out]; decide)) (m := 0) rfl).mono ?_
  rintro e w4 ⟨A4, c4, rfl, ho4, hb4⟩
  have O1 := pw_cell_below hb4 (alloc_cell N1 _)
  have O2 := pw_cell_below hb4 (alloc_cell N2 _)
  have O3 := pw_cell_below hb4 (alloc_cell N3 _)
  have O4 := pw_cell_below hb4 (alloc_cell N4 _)
  have B4 := Lib.hid (below_then (B3.out.alloc B3.out.size _) (by simp; have := B3.out.size; omega) hb4)
  clear ho4 hb4 N1 N2 N3 N4
  go_wp2_with fail
  refine (wakes_any _).mono ?_
  rintro e w5 ⟨rfl, hb5⟩
  have B5 := Lib.hid (below_then B4.out B4.out.size hb5)
  clear hb5 O1 O2 O3 O4
  go_wp2_with fail
  go_ret
  exact ⟨rfl, B5.out⟩

theorem openE_256 {l : List Int} {at_ kind : Int} (h : openE l at_ kind = 0) : l.length = 256 ∧ l.drop 252 = be (sumOf (l.take 252)) 4 ∧ (l.drop 240).take 8 = be (u64 at_) 8 ∧ (l.drop 248).take 4 = be kind 4 := by
  unfold openE at h
  by_cases h1 : l.length < 256
  · rw [if_pos h1] at h; omega
  rw [if_neg h1] at h
  by_cases h2 : 256 < l.length
  · rw [if_pos h2] at h; omega
  rw [if_neg h2] at h
  by_cases h3 : l.drop 252 = be (sumOf (l.take 252)) 4
  · rw [if_neg (by simpa using h3)] at h
    by_cases h4 : (l.drop 240).take 8 = be (u64 at_) 8
    · rw [if_neg (by simpa using h4)] at h
      by_cases h5 : (l.drop 248).take 4 = be kind 4
      · exact ⟨by omega, h3, h4, h5⟩
      · rw [if_pos h5] at h; omega
    · rw [if_pos h4] at h; omega
  · rw [if_pos h3] at h; omega
theorem seal_back {l : List Int} {at_ kind : Int} (h : openE l at_ kind = 0) : sealL (l.take 240) at_ kind = l := by
  obtain ⟨hl, h1, h2, h3⟩ := openE_256 h
  have hp : pad (l.take 240) = l.take 240 := by unfold pad; rw [List.length_take, Nat.min_eq_left (by omega)]; simp
  have hh : head (l.take 240) at_ kind = l.take 252 := by
    unfold head
    rw [hp, ← h2, ← h3]
    have e1 : l.take 240 ++ (l.drop 240).take 8 = l.take 248 := (List.take_add (l := l) (i := 240) (j := 8)).symm
    have e2 : l.take 248 ++ (l.drop 248).take 4 = l.take 252 := (List.take_add (l := l) (i := 248) (j := 4)).symm
    rw [e1, e2]
  unfold sealL
  rw [hh, ← h1, List.take_append_drop]

set_option maxRecDepth 100000 in
set_option maxHeartbeats 1600000 in
theorem back_walk (A : Option Addr) (c : Nat) (l : List Int) (w : World) (hr : ReadsInt w .u8 A l.length l) (hl : l.length * 1 ≤ 140737488351232) (hw : ∀ x ∈ l, (Lit.int .u8 x).wf = true) (hc : l.length ≤ c)
    (at_ : Int) (wat : (Lit.int .i64 at_).wf = true) (kind : Int) (wk : (Lit.int .u8 kind).wf = true) :
    Calls Try.prog 13 #[.slice A l.length c, .int .i64 at_, .int .u8 kind] w fun e w' => e = .returned (.bool true) ∧ Below w.heap.size w w' := by
  obtain ⟨k0, k1⟩ := le_of_wf8 wk
  clear wk wat
  obtain ⟨er, her⟩ : ∃ er, openE l at_ kind = er := ⟨_, rfl⟩
  by_cases hn : l.length = 256
  · rw [hn] at hr hc ⊢
    have HR := Lib.hid hr
    have HW := Lib.hid hw
    have HE := Lib.hid her
    have HN := Lib.hid hn
    clear hr hw hl hn
    by_cases h0 : er = 0
    · subst h0
      have HB := Lib.hid (seal_back her)
      have hlen : (l.take 240).length = 240 := by rw [List.length_take, HN.out]; rfl
      have HLN := Lib.hid hlen
      clear her hlen
      go_enter Try.func13, Try.ntmps13
      go_wp2_with fail
      refine (open_at l _ HR.out HW.out hc k0 k1 HE.out (openL_ok HE.out) (m := 240) HLN.out).mono ?_
      rintro e w1 ⟨A1, c1, rfl, ho1, hb1⟩
      have R1 := Lib.hid (reads_of_own ho1 HLN.out rfl)
      have B1 := Lib.hid hb1
      clear ho1 hb1
      go_wp2_with fail
      refine (seal_ok (l.take 240) _ 240 _ at_ kind _ R1.out (by omega) k0 k1).mono ?_
      rintro e w2 ⟨A2, c2, rfl, ho2, hb2⟩
      rw [HB.out] at ho2
      have B2 := Lib.hid (below_then B1.out B1.out.size hb2)
      have hs1 := string_of_reads (c := c2) Try.underlying23 Try.underlying5 Try.underlying9 (reads_of_own ho2 HN.out rfl)
      have hs2 := string_of_reads (c := c) Try.underlying23 Try.underlying5 Try.underlying9 (ReadsInt.below HR.out B2.out)
      clear ho2 hb2
      go_wp2_with fail
      refine (wakes_any _).mono ?_
      rintro e w3 ⟨rfl, hb3⟩
      have B3 := Lib.hid (below_then B2.out B2.out.size hb3)
      clear hb3
      go_wp2_with fail
      go_ret
      exact ⟨rfl, B3.out⟩
    · have hne : (er == 0) = false := by simpa using h0
      have HL := Lib.hid (openL_no (by rw [her]; exact h0))
      clear h0 her
      go_enter Try.func13, Try.ntmps13
      go_wp2_with fail
      refine (open_at l _ HR.out HW.out hc k0 k1 HE.out HL.out (m := 0) rfl).mono ?_
      rintro e w1 ⟨A1, c1, rfl, ho1, hb1⟩
      have B1 := Lib.hid hb1
      clear ho1 hb1
      go_wp2_with fail
      refine (wakes_any _).mono ?_
      rintro e w3 ⟨rfl, hb3⟩
      have B3 := Lib.hid (below_then B1.out B1.out.size hb3)
      clear hb3
      go_wp2_with fail
      go_ret
      exact ⟨rfl, B3.out⟩
  · have HR := Lib.hid hr
    have HW := Lib.hid hw
    have HC := Lib.hid hc
    obtain ⟨N, hN⟩ : ∃ N, N = l.length := ⟨_, rfl⟩
    have q1 : ((N : Int) == 256) = false := by simp; omega
    rw [← hN] at hn HR HC ⊢
    by_cases hs : N < 256
    · have he : openE l at_ kind = 4 := if_pos (by omega)
      have HE := Lib.hid he
      have HL := Lib.hid (openL_no (by rw [he]; decide))
      have q2 : decide ((N : Int) < 256) = true := decide_eq_true (by omega)
      have q3 : decide (256 < (N : Int)) = false := decide_eq_false (by omega)
      clear he her hr hw hl hc hn hs hN
      go_enter Try.func13, Try.ntmps13
      go_wp2_with fail
      refine (open_at l _ HR.out HW.out HC.out k0 k1 HE.out HL.out (m := 0) rfl).mono ?_
      rintro e w1 ⟨A1, c1, rfl, ho1, hb1⟩
      have B1 := Lib.hid hb1
      clear ho1 hb1
      go_wp2_with fail
      refine (wakes_any _).mono ?_
      rintro e w3 ⟨rfl, hb3⟩
      have B3 := Lib.hid (below_then B1.out B1.out.size hb3)
      clear hb3
      go_wp2_with fail
      go_ret
      exact ⟨rfl, B3.out⟩
    · have he : openE l at_ kind = 3 := by rw [openE, if_neg (by omega), if_pos (by omega)]
      have HE := Lib.hid he
      have HL := Lib.hid (openL_no (by rw [he]; decide))
      have q2 : decide ((N : Int) < 256) = false := decide_eq_false (by omega)
      have q3 : decide (256 < (N : Int)) = true := decide_eq_true (by omega)
      clear he her hr hw hl hc hn hs hN
      go_enter Try.func13, Try.ntmps13
      go_wp2_with fail
      refine (open_at l _ HR.out HW.out HC.out k0 k1 HE.out HL.out (m := 0) rfl).mono ?_
      rintro e w1 ⟨A1, c1, rfl, ho1, hb1⟩
      have B1 := Lib.hid hb1
      clear ho1 hb1
      go_wp2_with fail
      refine (wakes_any _).mono ?_
      rintro e w3 ⟨rfl, hb3⟩
      have B3 := Lib.hid (below_then B1.out B1.out.size hb3)
      clear hb3
      go_wp2_with fail
      go_ret
      exact ⟨rfl, B3.out⟩
end Go.Proofs.Ytilmjclfgjigeaa.Stp
