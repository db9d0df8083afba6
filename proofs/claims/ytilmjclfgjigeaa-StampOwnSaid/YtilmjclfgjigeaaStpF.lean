/- The walk of the law StampOwn: the call returns true, nothing that was there is changed (every input). -/
import Derived.Test.YtilmjclfgjigeaaStpE
set_option linter.unusedVariables false
set_option linter.unusedSimpArgs false
namespace Go.Proofs.Ytilmjclfgjigeaa.Stp
open Go Go.RowKit Go.Proofs.YtilmjclfgjigeaaW.PrintWords Go.Proofs.YtilmjclfgjigeaaW.PrintLast Go.Proofs.YtilmjclfgjigeaaW.PrintMore Base2 Odr
open Crc (more made23)

theorem pad_take (p : List Int) (n : Nat) (h : p.length = n) : (pad p).take n = p := by
  subst h; unfold pad; rw [List.take_append_of_le_length (Nat.le_refl _), List.take_of_length_le (Nat.le_refl _)]
theorem pad_zero (p : List Int) (k : Nat) (h : p.length ≤ k) (hk : k < 240) : (pad p)[k]? = some 0 := by
  unfold pad
  rw [List.getElem?_append_right h]
  rw [List.getElem?_replicate, if_pos (by omega)]
set_option maxRecDepth 100000 in
set_option maxHeartbeats 1600000 in
theorem own_walk (A : Option Addr) (c : Nat) (l : List Int) (w : World) (hr : ReadsInt w .u8 A l.length l) (hl : l.length * 1 ≤ 140737488351232) (hw : ∀ x ∈ l, (Lit.int .u8 x).wf = true) (hc : l.length ≤ c)
    (at_ : Int) (wat : (Lit.int .i64 at_).wf = true) (other : Int) (wot : (Lit.int .i64 other).wf = true) (kind : Int) (wk : (Lit.int .u8 kind).wf = true) (what : Int) (wwh : (Lit.int .u8 what).wf = true) :
    Calls Try.prog 12 #[.slice A l.length c, .int .i64 at_, .int .i64 other, .int .u8 kind, .int .u8 what] w fun e w' => e = .returned (.bool true) ∧ Below w.heap.size w w' := by
  obtain ⟨k0, k1⟩ := le_of_wf8 wk
  obtain ⟨h0, h1⟩ := le_of_wf8 wwh
  have u1 := le_of_wf64 wat
  have u2 := le_of_wf64 wot
  clear wk wwh wat wot
  have HR := Lib.hid hr
  have HW := Lib.hid hw
  have HC := Lib.hid hc
  obtain ⟨N, hN⟩ : ∃ N, N = l.length := ⟨_, rfl⟩
  rw [← hN] at HR HC hl ⊢
  by_cases hn : 240 < N
  · have q1 : decide (240 < (N : Int)) = true := decide_eq_true (by omega)
    have HN := Lib.hid hn
    clear hr hw hc hN hl hn
    go_enter Try.func12, Try.ntmps12
    go_wp2_with fail
    refine (seal_long l _ N _ at_ kind _ HN.out).mono ?_
    rintro e w' ⟨rfl, rfl⟩
    go_wp2_with fail
    refine (wakes_any _).mono ?_
    rintro e w3 ⟨rfl, hb3⟩
    have B3 := Lib.hid hb3
    clear hb3
    go_wp2_with fail
    go_ret
    exact ⟨rfl, B3.out⟩
  · have q1 : decide (240 < (N : Int)) = false := decide_eq_false (by omega)
    have hle : l.length ≤ 240 := by omega
    have hE := openE_seal l at_ kind other what hle k0 k1 h0 h1
    have HLE := Lib.hid hle
    have hsl := Lib.hid (sealL_length l at_ kind hle)
    have HWS := Lib.hid (sealL_wf l at_ kind HW.out)
    have HP := Lib.hid (seal_pay l at_ kind hle)
    have HN := Lib.hid hN
    have hN240 : N ≤ 240 := by omega
    clear hr hw hc hl hn hle hN
    by_cases ha : at_ = other
    · subst ha
      rw [if_pos rfl] at hE
      by_cases hk : kind = what
      · subst hk
        rw [if_pos rfl] at hE
        have HE := Lib.hid hE
        clear hE h0 h1
        go_enter Try.func12, Try.ntmps12
        go_wp2_with fail
        refine (seal_ok l _ N _ at_ kind _ HR.out hN240 k0 k1).mono ?_
        rintro e w1 ⟨A1, c1, rfl, ho1, hb1⟩
        have hc1 := own_cap ho1
        have R1 := Lib.hid (reads_of_own ho1 hsl.out rfl)
        have B1 := Lib.hid hb1
        clear ho1 hb1
        go_wp2_with fail
        refine (open_at _ _ R1.out HWS.out hc1 k0 k1 HE.out ((openL_ok HE.out).trans HP.out) (m := 240) (pad_length _ HLE.out)).mono ?_
        rintro e w2 ⟨A2, c2, rfl, ho2, hb2⟩
        obtain ⟨g, c2', he, -, -⟩ := ho2.form (by omega)
        injection he with he1 he2 he3
        subst he1; subst he3
        have hc2 := own_cap ho2
        have B2 := Lib.hid (below_then B1.out B1.out.size hb2)
        have R2 := Lib.hid (reads_of_own ho2 (pad_length _ HLE.out) rfl)
        have R3 := Lib.hid ((R2.out.take_ N hN240))
        have R4 := Lib.hid (ReadsInt.below HR.out B2.out)
        have HO := Lib.hid ho2
        rw [pad_take l N HN.out.symm] at R3
        have hNc : N ≤ c2 := by omega
        clear ho2 hb2
        go_wp2_with fail
        refine start_ (n := 13) (S := fun w' => (convert 23 9 (.slice (some ⟨g, 0, none⟩) N c2)).run Try.prog w' = .ok (.string (strOfNums l)) w' ∧ (convert 23 9 (.slice A N c)).run Try.prog w' = .ok (.string (strOfNums l)) w') (ds := []) #[false, false, false, false, false, false, false, false, false, false, false, false, false] (by kernel_rfl) rfl rfl ⟨(string_of_reads (w := w2.drew) Try.underlying23 Try.underlying5 Try.underlying9 R3.out), (string_of_reads (w := w2.drew) Try.underlying23 Try.underlying5 Try.underlying9 R4.out)⟩ (fun hHeld => ?_)
        refine pure_ (i := 0) (N := some 87) (v := ?_) (a' := ?_) #[true, false, false, false, false, false, false, false, false, false, false, false, false] rfl rfl (by kernel_rfl) (fun _ _ _ h => h) (Or.inl ⟨by rfl, ?_⟩) ?_ ?_
        rotate_left
        · intro w'
          go_simp
          with_reducible rfl
        rotate_left
        · simp only [Act.put, List.setIfInBounds_toArray, List.set_cons_zero, List.set_cons_succ, i64_w, i32_w]
          rfl
        refine pure_ (i := 1) (N := some 88) (v := ?_) (a' := ?_) #[true, true, false, false, false, false, false, false, false, false, false, false, false] rfl rfl (by kernel_rfl) (fun _ _ _ h => h) (Or.inl ⟨by rfl, ?_⟩) ?_ ?_
        rotate_left
        · intro w'
          go_simp
          with_reducible rfl
        rotate_left
        · simp only [Act.put, List.setIfInBounds_toArray, List.set_cons_zero, List.set_cons_succ, i64_w, i32_w]
          rfl
        refine pure_ (i := 2) (N := some 89) (v := ?_) (a' := ?_) #[true, true, true, false, false, false, false, false, false, false, false, false, false] rfl rfl (by kernel_rfl) (fun _ _ _ h => h) (Or.inl ⟨by rfl, ?_⟩) ?_ ?_
        rotate_left
        · intro w'
          go_simp
          with_reducible rfl
        rotate_left
        · simp only [Act.put, List.setIfInBounds_toArray, List.set_cons_zero, List.set_cons_succ, i64_w, i32_w]
          rfl
        refine pure_ (i := 3) (N := some 90) (v := ?_) (a' := ?_) #[true, true, true, true, false, false, false, false, false, false, false, false, false] rfl rfl (by kernel_rfl) (fun _ _ _ h => h) (Or.inl ⟨by rfl, ?_⟩) ?_ ?_
        rotate_left
        · intro w'
          go_simp
          with_reducible rfl
        rotate_left
        · simp only [Act.put, List.setIfInBounds_toArray, List.set_cons_zero, List.set_cons_succ, i64_w, i32_w]
          rfl
        refine pure_ (i := 4) (N := some 91) (v := ?_) (a' := ?_) #[true, true, true, true, true, false, false, false, false, false, false, false, false] rfl rfl (by kernel_rfl) (fun _ _ _ h => h) (Or.inl ⟨by rfl, ?_⟩) ?_ ?_
        rotate_left
        · intro w'
          go_simp
          with_reducible rfl
        rotate_left
        · simp only [Act.put, List.setIfInBounds_toArray, List.set_cons_zero, List.set_cons_succ, i64_w, i32_w]
          rfl
        refine pure_ (i := 5) (N := some 92) (v := ?_) (a' := ?_) #[true, true, true, true, true, true, false, false, false, false, false, false, false] rfl rfl (by kernel_rfl) (fun _ _ _ h => h) (Or.inl ⟨by rfl, ?_⟩) ?_ ?_
        rotate_left
        · intro w'
          go_simp
          with_reducible rfl
        rotate_left
        · simp only [Act.put, List.setIfInBounds_toArray, List.set_cons_zero, List.set_cons_succ, i64_w, i32_w]
          rfl
        refine pure_ (i := 6) (N := some 93) (v := ?_) (a' := ?_) #[true, true, true, true, true, true, true, false, false, false, false, false, false] rfl rfl (by kernel_rfl) (fun _ _ _ h => h) (Or.inl ⟨by rfl, ?_⟩) ?_ ?_
        rotate_left
        · intro w'
          go_simp
          with_reducible rfl
        rotate_left
        · simp only [Act.put, List.setIfInBounds_toArray, List.set_cons_zero, List.set_cons_succ, i64_w, i32_w]
          rfl
        refine pure_ (i := 7) (N := some 94) (v := ?_) (a' := ?_) #[true, true, true, true, true, true, true, true, false, false, false, false, false] rfl rfl (by kernel_rfl) (fun _ _ _ h => h) (Or.inl ⟨by rfl, ?_⟩) ?_ ?_
        rotate_left
        · intro w'
          go_simp
          with_reducible rfl
        rotate_left
        · simp only [Act.put, List.setIfInBounds_toArray, List.set_cons_zero, List.set_cons_succ, i64_w, i32_w]
          rfl
        refine pure_ (i := 9) (N := some 96) (v := ?_) (a' := ?_) #[true, true, true, true, true, true, true, true, false, true, false, false, false] rfl rfl (by kernel_rfl) (fun _ _ _ h => h) (Or.inl ⟨by rfl, ?_⟩) ?_ ?_
        rotate_left
        · intro w'
          go_simp
          with_reducible rfl
        rotate_left
        · simp only [Act.put, List.setIfInBounds_toArray, List.set_cons_zero, List.set_cons_succ, i64_w, i32_w]
          rfl
        refine take_ (i := 8) (N := some 95) (v := ?_) (a' := ?_) #[true, true, true, true, true, true, true, true, true, true, false, false, false] rfl rfl (by kernel_rfl) (fun _ _ _ h => h) (Or.inl ⟨by rfl, ?_⟩) hHeld ?_ ?_
        rotate_left
        · rintro w' ⟨s0, s1⟩
          go_simp
          with_reducible rfl
        rotate_left
        · simp only [Act.put, List.setIfInBounds_toArray, List.set_cons_zero, List.set_cons_succ, i64_w, i32_w]
          rfl
        refine take_ (i := 10) (N := some 97) (v := ?_) (a' := ?_) #[true, true, true, true, true, true, true, true, true, true, true, false, false] rfl rfl (by kernel_rfl) (fun _ _ _ h => h) (Or.inl ⟨by rfl, ?_⟩) hHeld ?_ ?_
        rotate_left
        · rintro w' ⟨s0, s1⟩
          go_simp
          with_reducible rfl
        rotate_left
        · simp only [Act.put, List.setIfInBounds_toArray, List.set_cons_zero, List.set_cons_succ, i64_w, i32_w]
          rfl
        refine pure_ (i := 11) (N := some 98) (v := ?_) (a' := ?_) #[true, true, true, true, true, true, true, true, true, true, true, true, false] rfl rfl (by kernel_rfl) (fun _ _ _ h => h) (Or.inl ⟨by rfl, ?_⟩) ?_ ?_
        rotate_left
        · intro w'
          go_simp
          with_reducible rfl
        rotate_left
        · simp only [Act.put, List.setIfInBounds_toArray, List.set_cons_zero, List.set_cons_succ, i64_w, i32_w]
          rfl
        refine pure_ (i := 12) (N := some 99) (v := ?_) (a' := ?_) #[true, true, true, true, true, true, true, true, true, true, true, true, true] rfl rfl (by kernel_rfl) (fun _ _ _ h => h) (Or.inl ⟨by rfl, ?_⟩) ?_ ?_
        rotate_left
        · intro w'
          go_simp
          with_reducible rfl
        rotate_left
        · simp only [Act.put, List.setIfInBounds_toArray, List.set_cons_zero, List.set_cons_succ, i64_w, i32_w]
          rfl
        refine done_ (by kernel_rfl) ?_
        go_wp2_with fail
        go_loop [15] (fun i => ∃ k : Nat, N ≤ k ∧ k ≤ 240 ∧ i = .int .i64 k) (fun i => 240 - (intOf i).toNat)
        case atStart => exact ⟨N, by omega, by omega, rfl⟩
        case round =>
          obtain ⟨k, hk1, hk2, rfl⟩ := hrel
          by_cases hlt : k < 240
          · have hcell := own_cell (w := w2.drew) HO.out k 0 hlt (pad_zero l k (by rw [← HN.out]; exact hk1) hlt)
            go_wp2_with fail
            go_round
            case rel => exact ⟨k + 1, by omega, by omega, by go_num⟩
            case measure => simp [intOf]; omega
          · obtain rfl : k = 240 := by omega
            go_wp2_with fail
            refine (wakes_any _).mono ?_
            rintro e w3 ⟨rfl, hb3⟩
            have B3 := Lib.hid (below_then (below_drew B2.out) (below_drew B2.out).size hb3)
            clear hb3
            go_wp2_with fail
            go_ret
            exact ⟨rfl, B3.out⟩
      · have q2 : (kind == what) = false := by simpa using hk
        rw [if_neg hk] at hE
        have HE := Lib.hid hE
        have HL := Lib.hid (openL_no (by rw [hE]; decide))
        clear hE hk
        go_enter Try.func12, Try.ntmps12
        go_wp2_with fail
        refine (seal_ok l _ N _ at_ kind _ HR.out hN240 k0 k1).mono ?_
        rintro e w1 ⟨A1, c1, rfl, ho1, hb1⟩
        have hc1 := own_cap ho1
        have R1 := Lib.hid (reads_of_own ho1 hsl.out rfl)
        have B1 := Lib.hid hb1
        clear ho1 hb1
        go_wp2_with fail
        refine (open_at _ _ R1.out HWS.out hc1 h0 h1 HE.out HL.out (m := 0) rfl).mono ?_
        rintro e w2 ⟨A2, c2, rfl, ho2, hb2⟩
        have B2 := Lib.hid (below_then B1.out B1.out.size hb2)
        clear ho2 hb2
        go_wp2_with fail
        refine (wakes_any _).mono ?_
        rintro e w3 ⟨rfl, hb3⟩
        have B3 := Lib.hid (below_then B2.out B2.out.size hb3)
        clear hb3
        go_wp2_with fail
        go_ret
        exact ⟨rfl, B3.out⟩
    · have q2 : (at_ == other) = false := by simpa using ha
      have HBQ := Lib.hid (show (at_ != other) = true by simpa using ha)
      rw [if_neg (fun h => ha ((u64_inj u1 u2).1 h))] at hE
      have HE := Lib.hid hE
      have HL := Lib.hid (openL_no (by rw [hE]; decide))
      clear hE u1 u2
      go_enter Try.func12, Try.ntmps12
      go_wp2_with fail
      refine (seal_ok l _ N _ at_ kind _ HR.out hN240 k0 k1).mono ?_
      rintro e w1 ⟨A1, c1, rfl, ho1, hb1⟩
      have hc1 := own_cap ho1
      have R1 := Lib.hid (reads_of_own ho1 hsl.out rfl)
      have B1 := Lib.hid hb1
      clear ho1 hb1
      go_wp2_with fail
      refine (open_at _ _ R1.out HWS.out hc1 h0 h1 HE.out HL.out (m := 0) rfl).mono ?_
      rintro e w2 ⟨A2, c2, rfl, ho2, hb2⟩
      have B2 := Lib.hid (below_then B1.out B1.out.size hb2)
      clear ho2 hb2
      go_wp2_with fail
      refine (wakes_any _).mono ?_
      rintro e w3 ⟨rfl, hb3⟩
      have B3 := Lib.hid (below_then B2.out B2.out.size hb3)
      clear hb3
      go_wp2_with fail
      go_ret
      exact ⟨ret_eq (congrArg Value.bool HBQ.out), B3.out⟩
end Go.Proofs.Ytilmjclfgjigeaa.Stp
