/- Pieces: each piece comes, in order, up to the first error: Each, and the walk. -/
import Derived.BigQuiet
import Derived.Test.YtgmjpnampjkfeaaPieR
set_option linter.unusedVariables false
set_option linter.unusedSimpArgs false
namespace Go.Proofs.Ytgmjpnampjkfeaa.Pie
open Go Go.RowKit Go.Proofs.YtgmjpnampjkfeaaW.PrintWords Go.Proofs.YtgmjpnampjkfeaaW.PrintLast Go.Proofs.YtgmjpnampjkfeaaW.PrintMore Base

def SM (F : Nat → Int × Int × Int × Int) : Nat → Int
  | 0 => 0
  | i + 1 => sm (SM F i) (F i).2.1 (F i).2.2.2
def eStop (k : Nat) (a e : Int) : Prop := 0 ≤ a ∧ a < (k : Int) ∧ e ≠ 0
instance (k : Nat) (a e : Int) : Decidable (eStop k a e) := by unfold eStop; infer_instance
def eN (k : Nat) (a e : Int) : Nat := if eStop k a e then a.toNat + 1 else k
def eR (k : Nat) (a e : Int) : Int := if eStop k a e then e else 0
theorem each_stop {k i : Nat} {a e : Int} (h : (i : Int) = a) (hi : i < k) (he : e ≠ 0) : eN k a e = i + 1 ∧ eR k a e = e := by
  have hs : eStop k a e := ⟨by omega, by omega, he⟩
  refine ⟨?_, if_pos hs⟩
  unfold eN; rw [if_pos hs]; omega
theorem each_all {k : Nat} {a e : Int} (h : ¬ eStop k a e) : eN k a e = k ∧ eR k a e = 0 := ⟨if_neg h, if_neg h⟩
theorem hasM_grown {w w' : World} {A : Option Addr} {k g : Nat} {F : Nat → Int × Int × Int × Int} {cs : Array Value} {t : TypeId} {fr : Nat × Nat} (h : HasM w A k F) (hg : w.heap[g]? = some (.cells cs t fr)) (hcs : ∀ (i : Nat) (x : Int), cs[i]? ≠ some (.int .u64 x)) (hb : w.grownBy w' (some g)) : HasM w' A k F := by
  intro j hj
  obtain ⟨b, o, e, h0, h1, h2, h3⟩ := h j hj
  have hne : b ≠ g := by
    intro he; subst he
    rw [cell_of_row w b _ cs t fr hg] at h0
    exact hcs _ _ h0
  have hl : b < w.heap.size := block_lt_of_cell h0
  have hh : w'.heap[b]? = w.heap[b]? := hb.block b hl (by intro he; injection he with he; exact hne he)
  have key : ∀ (x : Nat), w'.cell? ⟨b, x, none⟩ = w.cell? ⟨b, x, none⟩ := by intro x; unfold World.cell?; rw [hh]
  exact ⟨b, o, e, by rw [key]; exact h0, by rw [key]; exact h1, by rw [key]; exact h2, by rw [key]; exact h3⟩
theorem no_u64 (a b c d : Int) : ∀ (i : Nat) (x : Int), (#[Value.int .i64 a, .int .i64 b, .int .i64 c, .int .i64 d] : Array Value)[i]? ≠ some (.int .u64 x) := by
  intro i x h
  match i with
  | 0 => simp at h
  | 1 => simp at h
  | 2 => simp at h
  | 3 => simp at h
  | n + 4 => simp at h
set_option maxRecDepth 100000 in
set_option maxHeartbeats 3200000 in
theorem each_any (A : Option Addr) (k c g : Nat) (F : Nat → Int × Int × Int × Int) (a e : Int) (w : World) (hM : HasM w A k F) (hk : k ≤ 9223372036854775807) (hg : w.heap[g]? = some (.cells #[.int .i64 a, .int .i64 0, .int .i64 0, .int .i64 e] 36)) :
    Calls Try.prog 19 #[.slice A k c, .func (.func 20) #[.pointer (some ⟨g, 0, none⟩)] #[]] w fun x w' => x = .returned (.int .i64 (eR k a e)) ∧
      w'.heap[g]? = some (.cells #[.int .i64 a, .int .i64 (eN k a e : Int), .int .i64 (SM F (eN k a e)), .int .i64 e] 36) ∧ w.grownBy w' (some g) := by
  have HM := Lib.hid hM
  have HG := Lib.hid hg
  have HK := Lib.hid hk
  clear hM hg hk
  go_enter Try.func19, Try.ntmps19
  go_wp2_with fail
  go_loopw [10] (fun iv wr => ∃ i : Nat, i ≤ k ∧ iv = .int .i64 (i : Int) ∧ wr.heap[g]? = some (.cells #[.int .i64 a, .int .i64 (i : Int), .int .i64 (SM F i), .int .i64 e] 36) ∧ w.grownBy wr (some g) ∧ ¬ eStop i a e) (fun iv _ => k - (intOf iv).toNat)
  case atStart => exact ⟨0, by omega, rfl, HG.out, World.grownBy.refl _ _, by unfold eStop; omega⟩
  case round =>
    obtain ⟨i, hi, rfl, hr, hgr, hns⟩ := hrel
    have HR := Lib.hid hr
    have HGR := Lib.hid hgr
    have HNS := Lib.hid hns
    by_cases hlt : i < k
    · obtain ⟨b, o, rfl, x0, x1, x2, x3⟩ := hasM_grown HM.out HG.out (no_u64 _ _ _ _) hgr i hlt
      obtain ⟨p0, hp0⟩ : ∃ p, (F i).1 = p := ⟨_, rfl⟩
      obtain ⟨p1, hp1⟩ : ∃ p, (F i).2.1 = p := ⟨_, rfl⟩
      obtain ⟨p2, hp2⟩ : ∃ p, (F i).2.2.1 = p := ⟨_, rfl⟩
      obtain ⟨p3, hp3⟩ : ∃ p, (F i).2.2.2 = p := ⟨_, rfl⟩
      rw [hp0] at x0; rw [hp1] at x1; rw [hp2] at x2; rw [hp3] at x3
      obtain ⟨w2, hw2, b2, f2, s2⟩ := made wr #[.int .u64 0, .int .i64 0, .int .i64 0, .int .i64 0] 31
      obtain ⟨w3, hw3⟩ : ∃ w3, w2.setRow wr.heap.size #[.int .u64 p0, .int .i64 p1, .int .i64 p2, .int .i64 p3] = w3 := ⟨_, rfl⟩
      have R2 := Lib.hid f2
      have hgl : g < wr.heap.size := (Array.getElem?_eq_some_iff.1 hr).1
      have P3 := Lib.hid (show w3.heap[wr.heap.size]? = some (.cells #[.int .u64 p0, .int .i64 p1, .int .i64 p2, .int .i64 p3] 31) by rw [← hw3]; exact setRow_heap _ _ _ _ _ _ f2)
      have G3 := Lib.hid (show w3.heap[g]? = some (.cells #[.int .i64 a, .int .i64 (i : Int), .int .i64 (SM F i), .int .i64 e] 36) by rw [← hw3, setRow_other _ _ _ _ (by omega)]; exact keep_row hr b2)
      have K3 := Lib.hid (show w.grownBy w3 (some g) by rw [← hw3]; exact grown_below hgr (below_setRow (b2.mono hgr.size) hgr.size _))
      have HS := Lib.hid (show sm (SM F i) p1 p3 = SM F (i + 1) by rw [← hp1, ← hp3]; rfl)
      have HLT := Lib.hid hlt
      have hi47 : i < 9223372036854775807 := by have := HK.out; omega
      clear hr hgr hns b2 f2 s2 hgl hp0 hp1 hp2 hp3 hi
      go_wp2_with (first | ((with_reducible refine wpList_load_row rfl 31 (.tmp 6) rfl wr.heap.size ?_ 31 _ _ _ P3.out Try.underlying31 ?_ (sizeP _ _ _ _) ?_); rfl; rfl) | ((with_reducible refine wpList_store_row rfl 31 (.tmp 6) (.tmp 13) rfl wr.heap.size #[.int .u64 p0, .int .i64 p1, .int .i64 p2, .int .i64 p3] ?_ ?_ 31 _ R2.out (sizeP _ _ _ _) ?_ (oneP _ _ _ _) ?_); rfl; rfl; rfl; rw [hw3]))
      refine (take_any g a (i : Int) (SM F i) e p0 p1 p2 p3 _ G3.out (by omega) (by omega)).mono ?_; rintro x w4 ⟨rfl, hg4, hb4⟩
      rw [HS.out] at hg4
      have G4 := Lib.hid hg4
      have K4 := Lib.hid (grown_then K3.out hb4)
      clear hg4 hb4 x0 x1 x2 x3
      obtain ⟨r, hr⟩ : ∃ r, (if (i : Int) = a then e else 0) = r := ⟨_, rfl⟩
      rw [hr]
      have HRR := Lib.hid hr
      clear hr
      by_cases hr0 : r = 0
      · subst hr0
        have HNX := Lib.hid (show ¬ eStop (i + 1) a e by
          intro h
          have h1 := HNS.out
          have h2 := HRR.out
          unfold eStop at h h1
          by_cases h3 : (i : Int) = a
          · rw [if_pos h3] at h2; exact h.2.2 h2
          · omega)
        go_wp2_with fail
        go_roundw
        case rel => exact ⟨i + 1, HLT.out, by push_cast; rfl, G4.out, K4.out, HNX.out⟩
        case measure => simp [intOf]; have := HLT.out; omega
      · have hd : (r != 0) = true := by simp [hr0]
        have hia : (i : Int) = a := by
          by_cases h3 : (i : Int) = a
          · exact h3
          · exact absurd (by rw [← HRR.out, if_neg h3]) hr0
        have hre : r = e := by rw [← HRR.out, if_pos hia]
        have HE := Lib.hid (each_stop (e := e) hia HLT.out (fun h => hr0 (hre.trans h)))
        have HRE := Lib.hid hre
        clear hia hre hr0
        go_wp2_with fail
        go_ret
        rw [HE.out.1, HE.out.2]
        exact ⟨by rw [HRE.out]; rfl, G4.out, K4.out⟩
    · obtain rfl : i = k := by omega
      clear hi hlt hr hgr hns
      go_wp2_with fail
      go_ret
      rw [(each_all HNS.out).1, (each_all HNS.out).2]
      exact ⟨rfl, HR.out, HGR.out⟩
def wv (i : Nat) (a e : Int) : Int := if 0 ≤ a ∧ a < (i : Int) then e else 0
theorem wv_next {i : Nat} {a e : Int} (h : wv i a e = 0) : wv (i + 1) a e = if (i : Int) = a then e else 0 := by
  unfold wv at h ⊢
  by_cases h1 : (i : Int) = a
  · rw [if_pos h1, if_pos (by omega)]
  · rw [if_neg h1]
    split
    · rename_i h2; rw [if_pos (by omega)] at h; exact h
    · rfl
theorem each_end {i k : Nat} {a e : Int} (hi : i ≤ k) (h : i = k ∨ wv i a e ≠ 0) (hp : i = 0 ∨ wv (i - 1) a e = 0) : i = eN k a e ∧ wv i a e = eR k a e := by
  unfold wv at *
  by_cases hs : eStop k a e
  · have h1 : eN k a e = a.toNat + 1 := if_pos hs
    have h2 : eR k a e = e := if_pos hs
    rw [h1, h2]
    obtain ⟨s1, s2, s3⟩ := hs
    have hia : i = a.toNat + 1 := by
      rcases hp with hp | hp
      · subst hp
        rcases h with h | h
        · omega
        · rw [if_neg (by omega)] at h; exact absurd rfl h
      · by_cases h4 : a < ((i - 1 : Nat) : Int)
        · rw [if_pos ⟨s1, h4⟩] at hp; exact absurd hp s3
        · rcases h with h | h
          · omega
          · by_cases h5 : a < (i : Int)
            · omega
            · rw [if_neg (fun hh => h5 hh.2)] at h; exact absurd rfl h
    exact ⟨hia, by rw [if_pos (by omega)]⟩
  · have h1 : eN k a e = k := if_neg hs
    have h2 : eR k a e = 0 := if_neg hs
    rw [h1, h2]
    unfold eStop at hs
    have h0 : (if 0 ≤ a ∧ a < (i : Int) then e else 0) = 0 := by
      split
      · rename_i h3
        by_cases he : e = 0
        · exact he
        · exact absurd ⟨h3.1, by omega, he⟩ hs
      · rfl
    rw [h0] at h ⊢
    exact ⟨h.resolve_right (fun h => h rfl), rfl⟩
set_option maxRecDepth 100000 in
set_option maxHeartbeats 3200000 in
theorem each_walk (A : Option Addr) (k c : Nat) (F : Nat → Int × Int × Int × Int) (w : World) (hkc : k ≤ c) (hc : c ≤ maxLen) (hM : HasM w A k F) (hk : k ≤ 9223372036854775807) (a : Int) (wa : (Lit.int .i64 a).wf = true) (e : Int) (we : (Lit.int .i64 e).wf = true) :
    Calls Try.prog 8 #[.slice A k c, .int .i64 a, .int .i64 e] w fun x w' => x = .returned (.bool true) ∧ Below w.heap.size w w' := by
  obtain ⟨w1, hw1, b1, f1, s1⟩ := made w #[.int .i64 a, .int .i64 0, .int .i64 0, .int .i64 e] 36
  have HM1 := Lib.hid (hasM_below hM b1)
  have F1 := Lib.hid f1
  have B1 := Lib.hid b1
  have HK := Lib.hid hk
  clear hM b1 f1 s1 hk hkc hc wa we
  go_enter Try.func8, Try.ntmps8
  go_wp2_with fail
  refine (each_any A k c w.heap.size F a e _ HM1.out HK.out F1.out).mono ?_; rintro x w2 ⟨rfl, hg2, hb2⟩
  obtain ⟨K, hKe⟩ : ∃ K, eN k a e = K := ⟨_, rfl⟩
  obtain ⟨R, hRe⟩ : ∃ R, eR k a e = R := ⟨_, rfl⟩
  rw [hKe] at hg2
  rw [hRe]
  have HKR := Lib.hid (And.intro hKe hRe)
  have g0 := cell_row hg2 (i := 1) (v := .int .i64 (K : Int)) rfl
  have g1 := cell_row hg2 (i := 2) (v := .int .i64 (SM F K)) rfl
  have G0 := Lib.hid (And.intro g0 g1)
  have HM2 := Lib.hid (hasM_grown HM1.out F1.out (no_u64 _ _ _ _) hb2)
  have B2 := Lib.hid (show Below w.heap.size w w2 from below_grown_new B1.out (Nat.le_refl _) hb2)
  clear hg2 hb2 hKe hRe g0 g1 hw1
  go_wp2_with fail
  go_loopw [9, 10, 11, 12] (fun sv nv wvv iv wr => ∃ i : Nat, i ≤ k ∧ sv = .int .i64 (SM F i) ∧ nv = .int .i64 (i : Int) ∧ wvv = .int .i64 (wv i a e) ∧ iv = .int .i64 (i : Int) ∧ Below w2.heap.size w2 wr ∧ (i = 0 ∨ wv (i - 1) a e = 0)) (fun _ _ _ iv _ => k - (intOf iv).toNat)
  case atStart => exact ⟨0, by omega, rfl, rfl, by unfold wv; rw [if_neg (by omega)], rfl, Below.refl _ _, .inl rfl⟩
  case round =>
    obtain ⟨i, hi, rfl, rfl, rfl, rfl, hb, hp⟩ := hrel
    have HBR := Lib.hid hb
    have HP := Lib.hid hp
    obtain ⟨v, hv⟩ : ∃ v, wv i a e = v := ⟨_, rfl⟩
    rw [hv]
    have HV := Lib.hid hv
    obtain ⟨S, hS⟩ : ∃ S, SM F i = S := ⟨_, rfl⟩
    rw [hS]
    have HS := Lib.hid hS
    have hi47 : i < 9223372036854775808 := by have := HK.out; omega
    clear hb hp hv hS
    by_cases hgo : i < k ∧ v = 0
    · obtain ⟨hlt, rfl⟩ := hgo
      obtain ⟨b, o, rfl, x0, x1, x2, x3⟩ := hasM_below HM2.out HBR.out i hlt
      obtain ⟨p1, hp1⟩ : ∃ p, (F i).2.1 = p := ⟨_, rfl⟩
      obtain ⟨p3, hp3⟩ : ∃ p, (F i).2.2.2 = p := ⟨_, rfl⟩
      rw [hp1] at x1; rw [hp3] at x3
      have HSS := Lib.hid (show SM F (i + 1) = wrap64 (wrap64 (wrap64 (S * 31) + p1) + p3) by rw [← HS.out, ← hp1, ← hp3]; rfl)
      have HLT := Lib.hid hlt
      have HW := Lib.hid (wv_next HV.out)
      have hi46 : i < 9223372036854775807 := by have := HK.out; omega
      clear hi hp1 hp3 x0 x2
      by_cases hia : (i : Int) = a
      · have hd : ((i : Int) == a) = true := by simp [hia]
        have HW1 := Lib.hid (show wv (i + 1) a e = e by rw [HW.out, if_pos hia])
        clear hia
        go_wp2_with fail
        go_quiet (fail)
        go_wp2_with fail
        go_roundw
        case rel => exact ⟨i + 1, HLT.out, by rw [HSS.out], by push_cast; rfl, by rw [HW1.out], by push_cast; rfl, below_dn HBR.out _, .inr HV.out⟩
        case measure => simp [intOf]; have := HLT.out; omega
      · have hd : ((i : Int) == a) = false := by simp [hia]
        have HW1 := Lib.hid (show wv (i + 1) a e = 0 by rw [HW.out, if_neg hia])
        clear hia
        go_wp2_with fail
        go_quiet (fail)
        go_wp2_with fail
        go_roundw
        case rel => exact ⟨i + 1, HLT.out, by rw [HSS.out], by push_cast; rfl, by rw [HW1.out], by push_cast; rfl, below_dn HBR.out _, .inr HV.out⟩
        case measure => simp [intOf]; have := HLT.out; omega
    · have HE := each_end (k := k) (a := a) (e := e) hi (by rw [HV.out]; by_cases h : i < k; exact .inr (fun h2 => hgo ⟨h, h2⟩); exact .inl (by omega)) HP.out
      rw [HKR.out.1, HKR.out.2, HV.out] at HE
      obtain ⟨rfl, rfl⟩ := HE
      obtain ⟨g0, g1⟩ := G0.out
      rw [HS.out] at g1
      have c0 := pw_cell_below HBR.out g0
      have c1 := pw_cell_below HBR.out g1
      clear g0 g1
      by_cases hlt : i < k
      · have hv0 : (v == 0) = false := by simp; exact fun h => hgo ⟨hlt, h⟩
        clear hi hgo
        go_wp2_with fail
        refine (wakes_any _).mono ?_; rintro x w3 ⟨rfl, hb⟩
        have B3 := Lib.hid (below_then (below_then B2.out B2.out.size HBR.out) (Nat.le_trans B2.out.size HBR.out.size) hb)
        clear hb
        go_wp2_with fail
        go_ret
        exact ⟨rfl, B3.out⟩
      · obtain rfl : i = k := by omega
        clear hi hgo hlt
        go_wp2_with fail
        refine (wakes_any _).mono ?_; rintro x w3 ⟨rfl, hb⟩
        have B3 := Lib.hid (below_then (below_then B2.out B2.out.size HBR.out) (Nat.le_trans B2.out.size HBR.out.size) hb)
        clear hb
        go_wp2_with fail
        go_ret
        exact ⟨rfl, B3.out⟩
end Go.Proofs.Ytgmjpnampjkfeaa.Pie
