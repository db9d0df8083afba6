/- The document's Open, by its contract (every input). -/
import Derived.Test.YtilmjclfgjigeaaStpG
set_option linter.unusedVariables false
set_option linter.unusedSimpArgs false
namespace Go.Proofs.Ytilmjclfgjigeaa.Stp
open Go Go.RowKit Go.Proofs.YtilmjclfgjigeaaW.PrintWords Go.Proofs.YtilmjclfgjigeaaW.PrintLast Go.Proofs.YtilmjclfgjigeaaW.PrintMore Base2 Odr
open Crc (more made23)

theorem piece_eq (xs ys : List Int) (off k n : Nat) (hn : xs.length = n) (hk : off + k ≤ n) (hy : ys.length = k) : (xs.drop off).take k = ys ↔ ∀ t, t < k → xs.getD (off + t) 0 = ys.getD t 0 := by
  constructor
  · intro h t ht
    rw [← h, List.getD_eq_getElem?_getD, List.getD_eq_getElem?_getD, List.getElem?_take, if_pos ht, List.getElem?_drop]
  · intro h
    apply List.ext_getElem?
    intro i
    by_cases hi : i < k
    · rw [List.getElem?_take, if_pos hi, List.getElem?_drop]
      have := h i hi
      rw [List.getD_eq_getElem?_getD, List.getD_eq_getElem?_getD, List.getElem?_eq_getElem (show off + i < xs.length by omega), List.getElem?_eq_getElem (show i < ys.length by omega)] at this
      rw [List.getElem?_eq_getElem (show off + i < xs.length by omega), List.getElem?_eq_getElem (show i < ys.length by omega)]
      exact congrArg some this
    · rw [List.getElem?_eq_none (by rw [List.length_take, List.length_drop]; omega), List.getElem?_eq_none (by omega)]
theorem sum_iff (b : List Int) (s : Int) (hl : b.length = 256) : b.drop 252 = be s 4 ↔ ∀ t, t < 4 → b.getD (255 - t) 0 = s / (2 : Int) ^ (8 * t) % 256 := by
  have e : (b.drop 252).take 4 = b.drop 252 := List.take_of_length_le (by simp; omega)
  rw [← e, piece_eq b (be s 4) 252 4 256 hl (by omega) (be_length _ _)]
  constructor
  · intro h t ht
    have := h (3 - t) (by omega)
    rw [be_getD _ _ _ (by omega), show 252 + (3 - t) = 255 - t by omega, show 4 - 1 - (3 - t) = t by omega] at this
    exact this
  · intro h t ht
    have := h (3 - t) (by omega)
    rw [be_getD _ _ _ (by omega), show 252 + t = 255 - (3 - t) by omega, show 4 - 1 - t = 3 - t by omega]
    exact this
theorem same_iff (b W ys : List Int) (off k : Nat) (hl : b.length = 256) (hW : W.length = 256) (hk : off + k ≤ 256) (hy : ys.length = k) (he : (W.drop off).take k = ys) : (b.drop off).take k = ys ↔ ∀ t, off ≤ t → t < off + k → b.getD t 0 = W.getD t 0 := by
  rw [piece_eq b ys off k 256 hl hk hy]
  have h2 := (piece_eq W ys off k 256 hW hk hy).1 he
  constructor
  · intro h t h0 h1
    have a := h (t - off) (by omega)
    have c := h2 (t - off) (by omega)
    rw [show off + (t - off) = t by omega] at a c
    rw [a, c]
  · intro h t ht
    rw [h (off + t) (by omega) (by omega), h2 t ht]
theorem openE_of (b : List Int) (at_ kind : Int) (hl : b.length = 256) : openE b at_ kind = if b.drop 252 ≠ be (sumOf (b.take 252)) 4 then 20 else if (b.drop 240).take 8 ≠ be (u64 at_) 8 then 21 else if (b.drop 248).take 4 ≠ be kind 4 then 22 else 0 := by
  rw [openE, if_neg (by omega), if_neg (by omega)]

set_option maxRecDepth 100000 in
set_option maxHeartbeats 3200000 in
theorem ropen_any (b : List Int) (A : Option Addr) (n c : Nat) (at_ kind : Int) (w : World) (HR : ReadsInt w .u8 A n b) (hw : ∀ x ∈ b, (Lit.int .u8 x).wf = true) (hc : n ≤ c) (h0 : 0 ≤ kind) (h1 : kind < 256) :
    Calls Try.prog 26 #[.slice A n c, .int .i64 at_, .int .u8 kind] w fun e w' => ∃ A' c', e = .returned (.tuple #[.slice A' (openL b at_ kind).length c', .int .i64 (openE b at_ kind)]) ∧ w'.ownsRow w.heap.size 5 1 (.slice A' (openL b at_ kind).length c') (openL b at_ kind).length (nums .u8 (openL b at_ kind)) ∧ Below w.heap.size w w' := by
  have hl := HR.1
  subst hl
  by_cases hs : b.length < 256
  · have he : openE b at_ kind = 4 := if_pos hs
    rw [openL_no (by rw [he]; decide), he]
    have hs' : decide ((b.length : Int) < 256) = true := decide_eq_true (by omega)
    have HE := Lib.hid he
    clear he HR
    go_enter Try.func26, Try.ntmps26
    go_wp2_with fail
    go_ret2
    exact ⟨none, 0, rfl, own_nil _ _ _ _, Below.refl _ _⟩
  by_cases hg : 256 < b.length
  · have he : openE b at_ kind = 3 := by rw [openE, if_neg hs, if_pos hg]
    rw [openL_no (by rw [he]; decide), he]
    have HE := Lib.hid he
    have hs2 : decide ((b.length : Int) < 256) = false := decide_eq_false (by omega)
    have hg2 : decide (256 < (b.length : Int)) = true := decide_eq_true (by omega)
    have HH := Lib.hid hg
    clear he HR hs hg hc hw
    obtain ⟨N, hN⟩ : ∃ N, N = b.length := ⟨_, rfl⟩
    rw [← hN] at hs2 hg2 ⊢
    have HN := Lib.hid hN
    clear hN
    go_enter Try.func26, Try.ntmps26
    go_wp2_with fail
    go_ret2
    exact ⟨none, 0, rfl, own_nil _ _ _ _, Below.refl _ _⟩
  have hl : b.length = 256 := by omega
  clear hs hg
  rw [hl] at HR hc
  have hp240 : (b.take 240).length ≤ 240 := by rw [List.length_take]; omega
  obtain ⟨W, hW⟩ : ∃ W, sealL (b.take 240) at_ kind = W := ⟨_, rfl⟩
  have hWl : W.length = 256 := by rw [← hW]; exact sealL_length _ _ _ hp240
  have hW8 : (W.drop 240).take 8 = be (u64 at_) 8 := by rw [← hW]; exact seal_place _ _ _ hp240
  have hW4 : (W.drop 248).take 4 = be kind 4 := by rw [← hW]; exact seal_kind _ _ _ hp240
  obtain ⟨s, hsum, s0, s1⟩ : ∃ s, sumOf (b.take 252) = s ∧ 0 ≤ s ∧ s < 4294967296 := ⟨_, rfl, sumOf_range _⟩
  have hE := openE_of b at_ kind hl
  rw [hsum] at hE
  have I1 := Lib.hid (sum_iff b s hl)
  have I2 := Lib.hid (same_iff b W _ 240 8 hl hWl (by omega) (be_length _ _) hW8)
  have I3 := Lib.hid (same_iff b W _ 248 4 hl hWl (by omega) (be_length _ _) hW4)
  have HE := Lib.hid hE
  have HRH := Lib.hid HR
  have HWE := Lib.hid hW
  have HWL := Lib.hid hWl
  have HS := Lib.hid hsum
  have HL := Lib.hid hl
  have R252 := Lib.hid (HR.take_ 252 (by omega))
  have R240 := Lib.hid (HR.take_ 240 (by omega))
  have h252 : 252 ≤ c := by omega
  have h240 : 240 ≤ c := by omega
  rw [hl]
  obtain ⟨ad, rfl⟩ : ∃ ad, A = some ad := by obtain ⟨ad, h, -⟩ := HR.2.2 (by omega); exact ⟨ad, h⟩
  clear hE HR hW hWl hW8 hW4 hsum hl hw hp240
  go_enter Try.func26, Try.ntmps26
  go_wp2_with fail
  refine (rseal_ok (b.take 240) _ 240 _ at_ kind _ R240.out (by omega) h0 h1).mono ?_
  rintro e w1 ⟨A1, c1, rfl, ho1, hb1⟩
  rw [HWE.out] at ho1
  obtain ⟨g, c1', he, -, -⟩ := ho1.form (by omega)
  injection he with he1 he2 he3
  subst he1; subst he3
  have hc1 := own_cap ho1
  have RW := Lib.hid (reads_of_own ho1 HWL.out rfl)
  have B1 := Lib.hid hb1
  clear ho1 hb1
  go_wp2_with fail
  refine (rsum_at (s := s) _ (ReadsInt.below R252.out B1.out) HS.out).mono ?_; rintro e w' ⟨rfl, rfl⟩
  have RB := Lib.hid (ReadsInt.below HRH.out B1.out)
  go_wp2_with fail
  go_loopw [10, 11] (fun v i wr => ∃ j : Nat, j ≤ 4 ∧ i = .int .i64 (255 - (j : Int)) ∧ v = .int .u32 (s / (2 : Int) ^ (8 * j)) ∧ wr = w1 ∧ ∀ t, t < j → b.getD (255 - t) 0 = s / (2 : Int) ^ (8 * t) % 256) (fun _ i _ => (intOf i - 251).toNat)
  case atStart => exact ⟨0, by omega, by rfl, by simp, rfl, fun t ht => absurd ht (by omega)⟩
  case round =>
    obtain ⟨j, hj, rfl, rfl, rfl, hall⟩ := hrel
    have HA := Lib.hid hall
    clear hall
    by_cases hlt : j < 4
    · have hd := div_bound s j 4294967296 s0 s1
      have hst := div_step s j
      obtain ⟨y, hy⟩ : ∃ y, s / (2 : Int) ^ (8 * j) = y := ⟨_, rfl⟩
      rw [hy] at hd hst ⊢
      obtain ⟨y0, y1⟩ := hd
      have HST := Lib.hid hst
      have HY := Lib.hid hy
      have e1 : ((255 : Int) - (j : Int)).toNat = 255 - j := by clear hst hy; omega
      obtain ⟨ad', had, hc0⟩ := RB.out.at_ (255 - j) (by omega) (by omega)
      obtain rfl : ad = ad' := by injection had
      have hcell : wr.cell? (ad.add (255 - j)) = some (.int .u8 (b.getD (255 - j) 0)) := by have h := hc0; unfold rd at h; rw [e1] at h; exact h
      clear hst hy hc0 had
      by_cases hq : b.getD (255 - j) 0 = y % 256
      · have hqb : (b.getD (255 - j) 0 == y % 256) = true := by simpa using hq
        have HQ := Lib.hid hq
        clear hq
        obtain ⟨x, hx⟩ : ∃ x, b.getD (255 - j) 0 = x := ⟨_, rfl⟩
        rw [hx] at hqb hcell
        have HX := Lib.hid hx
        clear hx
        go_wp2_with fail
        go_roundw
        case rel =>
          refine ⟨j + 1, by omega, congrArg (Value.int .i64) (by clear HST; omega), by rw [HST.out], trivial, fun t ht => ?_⟩
          by_cases h : t = j
          · rw [h, HQ.out, HY.out]
          · exact HA.out t (by omega)
        case measure => simp [intOf]; omega
      · have hqb : (b.getD (255 - j) 0 == y % 256) = false := by simpa using hq
        have he : openE b at_ kind = 20 := by
          rw [HE.out, if_pos]
          intro h
          exact hq (by rw [I1.out.1 h j hlt, HY.out])
        have HEE := Lib.hid he
        clear hq he
        obtain ⟨x, hx⟩ : ∃ x, b.getD (255 - j) 0 = x := ⟨_, rfl⟩
        rw [hx] at hqb hcell
        clear hx
        go_wp2_with fail
        go_ret2
        rw [openL_no (by rw [HEE.out]; decide), HEE.out]
        exact ⟨none, 0, rfl, own_nil _ _ _ _, B1.out⟩
    · obtain rfl : j = 4 := by omega
      have hsum : b.drop 252 = be s 4 := I1.out.2 HA.out
      have HSU := Lib.hid hsum
      clear hsum HA
      go_wp2_with fail
      go_loopw [12] (fun i wx => ∃ k : Nat, 240 ≤ k ∧ k ≤ 248 ∧ i = .int .i64 k ∧ ReadsInt wx .u8 (some ad) 256 b ∧ ReadsInt wx .u8 (some ⟨g, 0, none⟩) 256 W ∧ Below w.heap.size w wx ∧ ∀ t, 240 ≤ t → t < k → b.getD t 0 = W.getD t 0) (fun i _ => 248 - (intOf i).toNat)
      case atStart => exact ⟨240, by omega, by omega, rfl, RB.out, RW.out, B1.out, fun t h0 h1 => absurd h1 (by omega)⟩
      case round =>
        obtain ⟨k, hk0, hk1, rfl, hrb, hrw, hbel, hall⟩ := hrel
        have HA := Lib.hid hall
        have RB := Lib.hid hrb
        have RW := Lib.hid hrw
        have HB := Lib.hid hbel
        clear hall hrb hrw hbel
        by_cases hlt : k < 248
        · obtain ⟨ad', had, hc0⟩ := RB.out.at_ k (by omega) (by omega)
          obtain rfl : ad = ad' := by injection had
          obtain ⟨ag, hag, hd0⟩ := RW.out.at_ k (by omega) (by omega)
          obtain rfl : (⟨g, 0, none⟩ : Addr) = ag := by injection hag
          obtain ⟨x, hx⟩ : ∃ x, b.getD k 0 = x := ⟨_, rfl⟩
          obtain ⟨y, hy⟩ : ∃ y, W.getD k 0 = y := ⟨_, rfl⟩
          have C1 : wr.cell? (ad.add k) = some (.int .u8 x) := by rw [← hx]; exact hc0
          have C2 : wr.cell? ⟨g, k, none⟩ = some (.int .u8 y) := by
            rw [← hy]; have h := hd0
            rw [show ((⟨g, 0, none⟩ : Addr).add ((k : Int)).toNat) = ⟨g, k, none⟩ from add_plain _ _] at h
            exact h
          have D1 := Lib.hid C1
          have D2 := Lib.hid C2
          have HX := Lib.hid hx
          have HY := Lib.hid hy
          have hk256 : (k : Int) < 256 := by omega
          clear hx hy hc0 hd0 had hag C1 C2
          by_cases hq : x = y
          · have hqb : (x == y) = true := by simpa using hq
            have HQ := Lib.hid hq
            clear hq
            go_wp2_with fail
            refine start_ (n := 9) (S := fun w' => w'.cell? (ad.add k) = some (.int .u8 x) ∧ w'.cell? ⟨g, k, none⟩ = some (.int .u8 y)) (ds := []) #[false, false, false, false, false, false, false, false, false] (by kernel_rfl) rfl rfl ⟨D1.out, D2.out⟩ (fun hHeld => ?_)
            refine pure_ (i := 0) (N := some 50) (v := ?_) (a' := ?_) #[true, false, false, false, false, false, false, false, false] rfl rfl (by kernel_rfl) (fun _ _ _ h => h) (Or.inl ⟨by rfl, ?_⟩) ?_ ?_
            rotate_left
            · intro w'
              go_simp
              with_reducible rfl
            rotate_left
            · simp only [Act.put, List.setIfInBounds_toArray, List.set_cons_zero, List.set_cons_succ, i64_w, i32_w]
              rfl
            refine pure_ (i := 1) (N := some 51) (v := ?_) (a' := ?_) #[true, true, false, false, false, false, false, false, false] rfl rfl (by kernel_rfl) (fun _ _ _ h => h) (Or.inl ⟨by rfl, ?_⟩) ?_ ?_
            rotate_left
            · intro w'
              go_simp
              with_reducible rfl
            rotate_left
            · simp only [Act.put, List.setIfInBounds_toArray, List.set_cons_zero, List.set_cons_succ, i64_w, i32_w]
              rfl
            refine pure_ (i := 2) (N := some 52) (v := ?_) (a' := ?_) #[true, true, true, false, false, false, false, false, false] rfl rfl (by kernel_rfl) (fun _ _ _ h => h) (Or.inl ⟨by rfl, ?_⟩) ?_ ?_
            rotate_left
            · intro w'
              go_simp
              with_reducible rfl
            rotate_left
            · simp only [Act.put, List.setIfInBounds_toArray, List.set_cons_zero, List.set_cons_succ, i64_w, i32_w]
              rfl
            refine pure_ (i := 4) (N := some 54) (v := ?_) (a' := ?_) #[true, true, true, false, true, false, false, false, false] rfl rfl (by kernel_rfl) (fun _ _ _ h => h) (Or.inl ⟨by rfl, ?_⟩) ?_ ?_
            rotate_left
            · intro w'
              go_simp
              with_reducible rfl
            rotate_left
            · simp only [Act.put, List.setIfInBounds_toArray, List.set_cons_zero, List.set_cons_succ, i64_w, i32_w]
              rfl
            refine pure_ (i := 5) (N := some 55) (v := ?_) (a' := ?_) #[true, true, true, false, true, true, false, false, false] rfl rfl (by kernel_rfl) (fun _ _ _ h => h) (Or.inl ⟨by rfl, ?_⟩) ?_ ?_
            rotate_left
            · intro w'
              go_simp
              with_reducible rfl
            rotate_left
            · simp only [Act.put, List.setIfInBounds_toArray, List.set_cons_zero, List.set_cons_succ, i64_w, i32_w]
              rfl
            refine pure_ (i := 6) (N := some 56) (v := ?_) (a' := ?_) #[true, true, true, false, true, true, true, false, false] rfl rfl (by kernel_rfl) (fun _ _ _ h => h) (Or.inl ⟨by rfl, ?_⟩) ?_ ?_
            rotate_left
            · intro w'
              go_simp
              with_reducible rfl
            rotate_left
            · simp only [Act.put, List.setIfInBounds_toArray, List.set_cons_zero, List.set_cons_succ, i64_w, i32_w]
              rfl
            refine take_ (i := 3) (N := some 53) (v := ?_) (a' := ?_) #[true, true, true, true, true, true, true, false, false] rfl rfl (by kernel_rfl) (fun _ _ _ h => h) (Or.inl ⟨by rfl, ?_⟩) hHeld ?_ ?_
            rotate_left
            · rintro w' ⟨s0, s1⟩
              go_simp
              with_reducible rfl
            rotate_left
            · simp only [Act.put, List.setIfInBounds_toArray, List.set_cons_zero, List.set_cons_succ, i64_w, i32_w]
              rfl
            refine take_ (i := 7) (N := some 57) (v := ?_) (a' := ?_) #[true, true, true, true, true, true, true, true, false] rfl rfl (by kernel_rfl) (fun _ _ _ h => h) (Or.inl ⟨by rfl, ?_⟩) hHeld ?_ ?_
            rotate_left
            · rintro w' ⟨s0, s1⟩
              go_simp
              with_reducible rfl
            rotate_left
            · simp only [Act.put, List.setIfInBounds_toArray, List.set_cons_zero, List.set_cons_succ, i64_w, i32_w]
              rfl
            refine pure_ (i := 8) (N := some 58) (v := ?_) (a' := ?_) #[true, true, true, true, true, true, true, true, true] rfl rfl (by kernel_rfl) (fun _ _ _ h => h) (Or.inl ⟨by rfl, ?_⟩) ?_ ?_
            rotate_left
            · intro w'
              go_simp
              with_reducible rfl
            rotate_left
            · simp only [Act.put, List.setIfInBounds_toArray, List.set_cons_zero, List.set_cons_succ, i64_w, i32_w]
              rfl
            refine done_ (by kernel_rfl) ?_
            go_wp2_with fail
            go_roundw
            case rel =>
              refine ⟨k + 1, by omega, by omega, by go_num, reads_drew RB.out, reads_drew RW.out, below_drew HB.out, fun t ht0 ht1 => ?_⟩
              by_cases h : t = k
              · rw [h, HX.out, HY.out, HQ.out]
              · exact HA.out t ht0 (by omega)
            case measure => simp [intOf]; omega
          · have hqb : (x == y) = false := by simpa using hq
            have he : openE b at_ kind = 21 := by
              rw [HE.out, if_neg (by simpa using HSU.out), if_pos]
              intro h
              exact hq (by rw [← HX.out, ← HY.out]; exact I2.out.1 h k hk0 hlt)
            have HEE := Lib.hid he
            clear hq he
            go_wp2_with fail
            refine start_ (n := 9) (S := fun w' => w'.cell? (ad.add k) = some (.int .u8 x) ∧ w'.cell? ⟨g, k, none⟩ = some (.int .u8 y)) (ds := []) #[false, false, false, false, false, false, false, false, false] (by kernel_rfl) rfl rfl ⟨D1.out, D2.out⟩ (fun hHeld => ?_)
            refine pure_ (i := 0) (N := some 50) (v := ?_) (a' := ?_) #[true, false, false, false, false, false, false, false, false] rfl rfl (by kernel_rfl) (fun _ _ _ h => h) (Or.inl ⟨by rfl, ?_⟩) ?_ ?_
            rotate_left
            · intro w'
              go_simp
              with_reducible rfl
            rotate_left
            · simp only [Act.put, List.setIfInBounds_toArray, List.set_cons_zero, List.set_cons_succ, i64_w, i32_w]
              rfl
            refine pure_ (i := 1) (N := some 51) (v := ?_) (a' := ?_) #[true, true, false, false, false, false, false, false, false] rfl rfl (by kernel_rfl) (fun _ _ _ h => h) (Or.inl ⟨by rfl, ?_⟩) ?_ ?_
            rotate_left
            · intro w'
              go_simp
              with_reducible rfl
            rotate_left
            · simp only [Act.put, List.setIfInBounds_toArray, List.set_cons_zero, List.set_cons_succ, i64_w, i32_w]
              rfl
            refine pure_ (i := 2) (N := some 52) (v := ?_) (a' := ?_) #[true, true, true, false, false, false, false, false, false] rfl rfl (by kernel_rfl) (fun _ _ _ h => h) (Or.inl ⟨by rfl, ?_⟩) ?_ ?_
            rotate_left
            · intro w'
              go_simp
              with_reducible rfl
            rotate_left
            · simp only [Act.put, List.setIfInBounds_toArray, List.set_cons_zero, List.set_cons_succ, i64_w, i32_w]
              rfl
            refine pure_ (i := 4) (N := some 54) (v := ?_) (a' := ?_) #[true, true, true, false, true, false, false, false, false] rfl rfl (by kernel_rfl) (fun _ _ _ h => h) (Or.inl ⟨by rfl, ?_⟩) ?_ ?_
            rotate_left
            · intro w'
              go_simp
              with_reducible rfl
            rotate_left
            · simp only [Act.put, List.setIfInBounds_toArray, List.set_cons_zero, List.set_cons_succ, i64_w, i32_w]
              rfl
            refine pure_ (i := 5) (N := some 55) (v := ?_) (a' := ?_) #[true, true, true, false, true, true, false, false, false] rfl rfl (by kernel_rfl) (fun _ _ _ h => h) (Or.inl ⟨by rfl, ?_⟩) ?_ ?_
            rotate_left
            · intro w'
              go_simp
              with_reducible rfl
            rotate_left
            · simp only [Act.put, List.setIfInBounds_toArray, List.set_cons_zero, List.set_cons_succ, i64_w, i32_w]
              rfl
            refine pure_ (i := 6) (N := some 56) (v := ?_) (a' := ?_) #[true, true, true, false, true, true, true, false, false] rfl rfl (by kernel_rfl) (fun _ _ _ h => h) (Or.inl ⟨by rfl, ?_⟩) ?_ ?_
            rotate_left
            · intro w'
              go_simp
              with_reducible rfl
            rotate_left
            · simp only [Act.put, List.setIfInBounds_toArray, List.set_cons_zero, List.set_cons_succ, i64_w, i32_w]
              rfl
            refine take_ (i := 3) (N := some 53) (v := ?_) (a' := ?_) #[true, true, true, true, true, true, true, false, false] rfl rfl (by kernel_rfl) (fun _ _ _ h => h) (Or.inl ⟨by rfl, ?_⟩) hHeld ?_ ?_
            rotate_left
            · rintro w' ⟨s0, s1⟩
              go_simp
              with_reducible rfl
            rotate_left
            · simp only [Act.put, List.setIfInBounds_toArray, List.set_cons_zero, List.set_cons_succ, i64_w, i32_w]
              rfl
            refine take_ (i := 7) (N := some 57) (v := ?_) (a' := ?_) #[true, true, true, true, true, true, true, true, false] rfl rfl (by kernel_rfl) (fun _ _ _ h => h) (Or.inl ⟨by rfl, ?_⟩) hHeld ?_ ?_
            rotate_left
            · rintro w' ⟨s0, s1⟩
              go_simp
              with_reducible rfl
            rotate_left
            · simp only [Act.put, List.setIfInBounds_toArray, List.set_cons_zero, List.set_cons_succ, i64_w, i32_w]
              rfl
            refine pure_ (i := 8) (N := some 58) (v := ?_) (a' := ?_) #[true, true, true, true, true, true, true, true, true] rfl rfl (by kernel_rfl) (fun _ _ _ h => h) (Or.inl ⟨by rfl, ?_⟩) ?_ ?_
            rotate_left
            · intro w'
              go_simp
              with_reducible rfl
            rotate_left
            · simp only [Act.put, List.setIfInBounds_toArray, List.set_cons_zero, List.set_cons_succ, i64_w, i32_w]
              rfl
            refine done_ (by kernel_rfl) ?_
            go_wp2_with fail
            go_ret2
            rw [openL_no (by rw [HEE.out]; decide), HEE.out]
            exact ⟨none, 0, rfl, own_nil _ _ _ _, below_drew HB.out⟩
        · obtain rfl : k = 248 := by omega
          have hpl : (b.drop 240).take 8 = be (u64 at_) 8 := I2.out.2 HA.out
          have HPL := Lib.hid hpl
          clear hpl HA
          go_wp2_with fail
          go_loopw [13] (fun i wx => ∃ k : Nat, 248 ≤ k ∧ k ≤ 252 ∧ i = .int .i64 k ∧ ReadsInt wx .u8 (some ad) 256 b ∧ ReadsInt wx .u8 (some ⟨g, 0, none⟩) 256 W ∧ Below w.heap.size w wx ∧ ∀ t, 248 ≤ t → t < k → b.getD t 0 = W.getD t 0) (fun i _ => 252 - (intOf i).toNat)
          case atStart => exact ⟨248, by omega, by omega, rfl, RB.out, RW.out, HB.out, fun t h0 h1 => absurd h1 (by omega)⟩
          case round =>
            obtain ⟨k, hk0, hk1, rfl, hrb, hrw, hbel, hall⟩ := hrel
            have HA := Lib.hid hall
            have RB := Lib.hid hrb
            have RW := Lib.hid hrw
            have HB := Lib.hid hbel
            clear hall hrb hrw hbel
            by_cases hlt : k < 252
            · obtain ⟨ad', had, hc0⟩ := RB.out.at_ k (by omega) (by omega)
              obtain rfl : ad = ad' := by injection had
              obtain ⟨ag, hag, hd0⟩ := RW.out.at_ k (by omega) (by omega)
              obtain rfl : (⟨g, 0, none⟩ : Addr) = ag := by injection hag
              obtain ⟨x, hx⟩ : ∃ x, b.getD k 0 = x := ⟨_, rfl⟩
              obtain ⟨y, hy⟩ : ∃ y, W.getD k 0 = y := ⟨_, rfl⟩
              have C1 : wr.cell? (ad.add k) = some (.int .u8 x) := by rw [← hx]; exact hc0
              have C2 : wr.cell? ⟨g, k, none⟩ = some (.int .u8 y) := by
                rw [← hy]; have h := hd0
                rw [show ((⟨g, 0, none⟩ : Addr).add ((k : Int)).toNat) = ⟨g, k, none⟩ from add_plain _ _] at h
                exact h
              have D1 := Lib.hid C1
              have D2 := Lib.hid C2
              have HX := Lib.hid hx
              have HY := Lib.hid hy
              have hk256 : (k : Int) < 256 := by omega
              clear hx hy hc0 hd0 had hag C1 C2
              by_cases hq : x = y
              · have hqb : (x == y) = true := by simpa using hq
                have HQ := Lib.hid hq
                clear hq
                go_wp2_with fail
                refine start_ (n := 9) (S := fun w' => w'.cell? (ad.add k) = some (.int .u8 x) ∧ w'.cell? ⟨g, k, none⟩ = some (.int .u8 y)) (ds := []) #[false, false, false, false, false, false, false, false, false] (by kernel_rfl) rfl rfl ⟨D1.out, D2.out⟩ (fun hHeld => ?_)
                refine pure_ (i := 0) (N := some 63) (v := ?_) (a' := ?_) #[true, false, false, false, false, false, false, false, false] rfl rfl (by kernel_rfl) (fun _ _ _ h => h) (Or.inl ⟨by rfl, ?_⟩) ?_ ?_
                rotate_left
                · intro w'
                  go_simp
                  with_reducible rfl
                rotate_left
                · simp only [Act.put, List.setIfInBounds_toArray, List.set_cons_zero, List.set_cons_succ, i64_w, i32_w]
                  rfl
                refine pure_ (i := 1) (N := some 64) (v := ?_) (a' := ?_) #[true, true, false, false, false, false, false, false, false] rfl rfl (by kernel_rfl) (fun _ _ _ h => h) (Or.inl ⟨by rfl, ?_⟩) ?_ ?_
                rotate_left
                · intro w'
                  go_simp
                  with_reducible rfl
                rotate_left
                · simp only [Act.put, List.setIfInBounds_toArray, List.set_cons_zero, List.set_cons_succ, i64_w, i32_w]
                  rfl
                refine pure_ (i := 2) (N := some 65) (v := ?_) (a' := ?_) #[true, true, true, false, false, false, false, false, false] rfl rfl (by kernel_rfl) (fun _ _ _ h => h) (Or.inl ⟨by rfl, ?_⟩) ?_ ?_
                rotate_left
                · intro w'
                  go_simp
                  with_reducible rfl
                rotate_left
                · simp only [Act.put, List.setIfInBounds_toArray, List.set_cons_zero, List.set_cons_succ, i64_w, i32_w]
                  rfl
                refine pure_ (i := 4) (N := some 67) (v := ?_) (a' := ?_) #[true, true, true, false, true, false, false, false, false] rfl rfl (by kernel_rfl) (fun _ _ _ h => h) (Or.inl ⟨by rfl, ?_⟩) ?_ ?_
                rotate_left
                · intro w'
                  go_simp
                  with_reducible rfl
                rotate_left
                · simp only [Act.put, List.setIfInBounds_toArray, List.set_cons_zero, List.set_cons_succ, i64_w, i32_w]
                  rfl
                refine pure_ (i := 5) (N := some 68) (v := ?_) (a' := ?_) #[true, true, true, false, true, true, false, false, false] rfl rfl (by kernel_rfl) (fun _ _ _ h => h) (Or.inl ⟨by rfl, ?_⟩) ?_ ?_
                rotate_left
                · intro w'
                  go_simp
                  with_reducible rfl
                rotate_left
                · simp only [Act.put, List.setIfInBounds_toArray, List.set_cons_zero, List.set_cons_succ, i64_w, i32_w]
                  rfl
                refine pure_ (i := 6) (N := some 69) (v := ?_) (a' := ?_) #[true, true, true, false, true, true, true, false, false] rfl rfl (by kernel_rfl) (fun _ _ _ h => h) (Or.inl ⟨by rfl, ?_⟩) ?_ ?_
                rotate_left
                · intro w'
                  go_simp
                  with_reducible rfl
                rotate_left
                · simp only [Act.put, List.setIfInBounds_toArray, List.set_cons_zero, List.set_cons_succ, i64_w, i32_w]
                  rfl
                refine take_ (i := 3) (N := some 66) (v := ?_) (a' := ?_) #[true, true, true, true, true, true, true, false, false] rfl rfl (by kernel_rfl) (fun _ _ _ h => h) (Or.inl ⟨by rfl, ?_⟩) hHeld ?_ ?_
                rotate_left
                · rintro w' ⟨s0, s1⟩
                  go_simp
                  with_reducible rfl
                rotate_left
                · simp only [Act.put, List.setIfInBounds_toArray, List.set_cons_zero, List.set_cons_succ, i64_w, i32_w]
                  rfl
                refine take_ (i := 7) (N := some 70) (v := ?_) (a' := ?_) #[true, true, true, true, true, true, true, true, false] rfl rfl (by kernel_rfl) (fun _ _ _ h => h) (Or.inl ⟨by rfl, ?_⟩) hHeld ?_ ?_
                rotate_left
                · rintro w' ⟨s0, s1⟩
                  go_simp
                  with_reducible rfl
                rotate_left
                · simp only [Act.put, List.setIfInBounds_toArray, List.set_cons_zero, List.set_cons_succ, i64_w, i32_w]
                  rfl
                refine pure_ (i := 8) (N := some 71) (v := ?_) (a' := ?_) #[true, true, true, true, true, true, true, true, true] rfl rfl (by kernel_rfl) (fun _ _ _ h => h) (Or.inl ⟨by rfl, ?_⟩) ?_ ?_
                rotate_left
                · intro w'
                  go_simp
                  with_reducible rfl
                rotate_left
                · simp only [Act.put, List.setIfInBounds_toArray, List.set_cons_zero, List.set_cons_succ, i64_w, i32_w]
                  rfl
                refine done_ (by kernel_rfl) ?_
                go_wp2_with fail
                go_roundw
                case rel =>
                  refine ⟨k + 1, by omega, by omega, by go_num, reads_drew RB.out, reads_drew RW.out, below_drew HB.out, fun t ht0 ht1 => ?_⟩
                  by_cases h : t = k
                  · rw [h, HX.out, HY.out, HQ.out]
                  · exact HA.out t ht0 (by omega)
                case measure => simp [intOf]; omega
              · have hqb : (x == y) = false := by simpa using hq
                have he : openE b at_ kind = 22 := by
                  rw [HE.out, if_neg (by simpa using HSU.out), if_neg (by simpa using HPL.out), if_pos]
                  intro h
                  exact hq (by rw [← HX.out, ← HY.out]; exact I3.out.1 h k hk0 hlt)
                have HEE := Lib.hid he
                clear hq he
                go_wp2_with fail
                refine start_ (n := 9) (S := fun w' => w'.cell? (ad.add k) = some (.int .u8 x) ∧ w'.cell? ⟨g, k, none⟩ = some (.int .u8 y)) (ds := []) #[false, false, false, false, false, false, false, false, false] (by kernel_rfl) rfl rfl ⟨D1.out, D2.out⟩ (fun hHeld => ?_)
                refine pure_ (i := 0) (N := some 63) (v := ?_) (a' := ?_) #[true, false, false, false, false, false, false, false, false] rfl rfl (by kernel_rfl) (fun _ _ _ h => h) (Or.inl ⟨by rfl, ?_⟩) ?_ ?_
                rotate_left
                · intro w'
                  go_simp
                  with_reducible rfl
                rotate_left
                · simp only [Act.put, List.setIfInBounds_toArray, List.set_cons_zero, List.set_cons_succ, i64_w, i32_w]
                  rfl
                refine pure_ (i := 1) (N := some 64) (v := ?_) (a' := ?_) #[true, true, false, false, false, false, false, false, false] rfl rfl (by kernel_rfl) (fun _ _ _ h => h) (Or.inl ⟨by rfl, ?_⟩) ?_ ?_
                rotate_left
                · intro w'
                  go_simp
                  with_reducible rfl
                rotate_left
                · simp only [Act.put, List.setIfInBounds_toArray, List.set_cons_zero, List.set_cons_succ, i64_w, i32_w]
                  rfl
                refine pure_ (i := 2) (N := some 65) (v := ?_) (a' := ?_) #[true, true, true, false, false, false, false, false, false] rfl rfl (by kernel_rfl) (fun _ _ _ h => h) (Or.inl ⟨by rfl, ?_⟩) ?_ ?_
                rotate_left
                · intro w'
                  go_simp
                  with_reducible rfl
                rotate_left
                · simp only [Act.put, List.setIfInBounds_toArray, List.set_cons_zero, List.set_cons_succ, i64_w, i32_w]
                  rfl
                refine pure_ (i := 4) (N := some 67) (v := ?_) (a' := ?_) #[true, true, true, false, true, false, false, false, false] rfl rfl (by kernel_rfl) (fun _ _ _ h => h) (Or.inl ⟨by rfl, ?_⟩) ?_ ?_
                rotate_left
                · intro w'
                  go_simp
                  with_reducible rfl
                rotate_left
                · simp only [Act.put, List.setIfInBounds_toArray, List.set_cons_zero, List.set_cons_succ, i64_w, i32_w]
                  rfl
                refine pure_ (i := 5) (N := some 68) (v := ?_) (a' := ?_) #[true, true, true, false, true, true, false, false, false] rfl rfl (by kernel_rfl) (fun _ _ _ h => h) (Or.inl ⟨by rfl, ?_⟩) ?_ ?_
                rotate_left
                · intro w'
                  go_simp
                  with_reducible rfl
                rotate_left
                · simp only [Act.put, List.setIfInBounds_toArray, List.set_cons_zero, List.set_cons_succ, i64_w, i32_w]
                  rfl
                refine pure_ (i := 6) (N := some 69) (v := ?_) (a' := ?_) #[true, true, true, false, true, true, true, false, false] rfl rfl (by kernel_rfl) (fun _ _ _ h => h) (Or.inl ⟨by rfl, ?_⟩) ?_ ?_
                rotate_left
                · intro w'
                  go_simp
                  with_reducible rfl
                rotate_left
                · simp only [Act.put, List.setIfInBounds_toArray, List.set_cons_zero, List.set_cons_succ, i64_w, i32_w]
                  rfl
                refine take_ (i := 3) (N := some 66) (v := ?_) (a' := ?_) #[true, true, true, true, true, true, true, false, false] rfl rfl (by kernel_rfl) (fun _ _ _ h => h) (Or.inl ⟨by rfl, ?_⟩) hHeld ?_ ?_
                rotate_left
                · rintro w' ⟨s0, s1⟩
                  go_simp
                  with_reducible rfl
                rotate_left
                · simp only [Act.put, List.setIfInBounds_toArray, List.set_cons_zero, List.set_cons_succ, i64_w, i32_w]
                  rfl
                refine take_ (i := 7) (N := some 70) (v := ?_) (a' := ?_) #[true, true, true, true, true, true, true, true, false] rfl rfl (by kernel_rfl) (fun _ _ _ h => h) (Or.inl ⟨by rfl, ?_⟩) hHeld ?_ ?_
                rotate_left
                · rintro w' ⟨s0, s1⟩
                  go_simp
                  with_reducible rfl
                rotate_left
                · simp only [Act.put, List.setIfInBounds_toArray, List.set_cons_zero, List.set_cons_succ, i64_w, i32_w]
                  rfl
                refine pure_ (i := 8) (N := some 71) (v := ?_) (a' := ?_) #[true, true, true, true, true, true, true, true, true] rfl rfl (by kernel_rfl) (fun _ _ _ h => h) (Or.inl ⟨by rfl, ?_⟩) ?_ ?_
                rotate_left
                · intro w'
                  go_simp
                  with_reducible rfl
                rotate_left
                · simp only [Act.put, List.setIfInBounds_toArray, List.set_cons_zero, List.set_cons_succ, i64_w, i32_w]
                  rfl
                refine done_ (by kernel_rfl) ?_
                go_wp2_with fail
                go_ret2
                rw [openL_no (by rw [HEE.out]; decide), HEE.out]
                exact ⟨none, 0, rfl, own_nil _ _ _ _, below_drew HB.out⟩
            · obtain rfl : k = 252 := by omega
              have hki : (b.drop 248).take 4 = be kind 4 := I3.out.2 HA.out
              have he : openE b at_ kind = 0 := by rw [HE.out, if_neg (by simpa using HSU.out), if_neg (by simpa using HPL.out), if_neg (by simpa using hki)]
              have HEE := Lib.hid he
              have R9 := Lib.hid (RB.out.take_ 240 (by omega))
              clear hki he
              go_wp2_with (at_builtin; refine print_append_row (w0 := w) w.heap.size rfl _ _ 23 5 .u8 1 rfl Try.underlying23 info8 (by omega) (.slice none 0 0) [] (b.take 240) (some ad) 240 c rfl rfl (own_nil _ _ _ _) R9.out HB.out HB.out.size (by simp) ?_)
              intro v1 w2 hown hb hg hat
              have hL : openL b at_ kind = b.take 240 := openL_ok HEE.out
              have hLn : (openL b at_ kind).length = 240 := by rw [hL, List.length_take, HL.out]; rfl
              have hown' : w2.ownsRow w.heap.size 5 1 v1 (openL b at_ kind).length (nums .u8 (openL b at_ kind)) := by rw [hL]; simpa using hown
              obtain ⟨A9, c9, rfl⟩ := own_slice hown'
              have HO9 := Lib.hid hown'
              have HB9 := Lib.hid hb
              have HLN := Lib.hid hLn
              clear hown hown' hb hg hat hL hLn
              go_wp2_with fail
              go_ret2
              exact ⟨A9, c9, by rw [HEE.out]; rfl, HO9.out, HB9.out⟩
end Go.Proofs.Ytilmjclfgjigeaa.Stp
