/- Counts: what pages say, plain; the document's Take, by its contract (every input). -/
import Derived.BigQuiet
import Derived.BigRegion
import Derived.Test.YtnnclfaibcedoaaDoorCntG
set_option linter.unusedVariables false
set_option linter.unusedSimpArgs false
namespace Go.Proofs.YtnnclfaibcedoaaDoor.Cnt
open Go Go.RowKit Go.Proofs.YtnnclfaibcedoaaDoorW.PrintWords Go.Proofs.YtnnclfaibcedoaaDoorW.PrintLast Go.Proofs.YtnnclfaibcedoaaDoorW.PrintMore Base Odr Hlp Trm

def full (L : List (List Int)) : Bool := L.all (fun l => l.length == 240)
def tkE (L : List (List Int)) (b : Int) : Int := if b < 0 ∨ 1024 < b then 1 else if L.length < np b.toNat then 4 else if np b.toNat < L.length then 3 else if full L && zeros (L.flatten.drop b.toNat) then 0 else 5
def tkL (L : List (List Int)) (b : Int) : List Int := if tkE L b = 0 then L.flatten.take b.toNat else []
theorem tk_arg {L : List (List Int)} {b : Int} (h : b < 0 ∨ 1024 < b) : tkE L b = 1 ∧ tkL L b = [] := by
  have e : tkE L b = 1 := by unfold tkE; rw [if_pos h]
  exact ⟨e, by unfold tkL; rw [if_neg (by rw [e]; decide)]⟩
theorem tk_short {L : List (List Int)} {B : Nat} (hB : B ≤ 1024) (h : L.length < np B) : tkE L (B : Int) = 4 ∧ tkL L (B : Int) = [] := by
  have e : tkE L (B : Int) = 4 := by unfold tkE; rw [if_neg (by omega), Int.toNat_natCast, if_pos h]
  exact ⟨e, by unfold tkL; rw [if_neg (by rw [e]; decide)]⟩
theorem tk_long {L : List (List Int)} {B : Nat} (hB : B ≤ 1024) (h : np B < L.length) : tkE L (B : Int) = 3 ∧ tkL L (B : Int) = [] := by
  have e : tkE L (B : Int) = 3 := by unfold tkE; rw [if_neg (by omega), Int.toNat_natCast, if_neg (by omega), if_pos h]
  exact ⟨e, by unfold tkL; rw [if_neg (by rw [e]; decide)]⟩
theorem tk_form {L : List (List Int)} {B : Nat} (hB : B ≤ 1024) (hn : L.length = np B) (h : (full L && zeros (L.flatten.drop B)) = false) : tkE L (B : Int) = 5 ∧ tkL L (B : Int) = [] := by
  have e : tkE L (B : Int) = 5 := by unfold tkE; rw [if_neg (by omega), Int.toNat_natCast, if_neg (by omega), if_neg (by omega), h]; rfl
  exact ⟨e, by unfold tkL; rw [if_neg (by rw [e]; decide)]⟩
theorem tk_ok {L : List (List Int)} {B : Nat} (hB : B ≤ 1024) (hn : L.length = np B) (h1 : full L = true) (h2 : zeros (L.flatten.drop B) = true) : tkE L (B : Int) = 0 ∧ tkL L (B : Int) = L.flatten.take B := by
  have e : tkE L (B : Int) = 0 := by unfold tkE; rw [if_neg (by omega), Int.toNat_natCast, if_neg (by omega), if_neg (by omega), h1, h2]; rfl
  exact ⟨e, by unfold tkL; rw [if_pos e, Int.toNat_natCast]⟩
theorem not_full {L : List (List Int)} {j : Nat} {l : List Int} (h : L[j]? = some l) (hl : l.length ≠ 240) (z : Bool) : (full L && z) = false := by
  have : full L = false := by
    unfold full
    rw [List.all_eq_false]
    exact ⟨l, List.mem_of_getElem? h, by simpa using hl⟩
  rw [this]; rfl
theorem full_of {L : List (List Int)} (h : ∀ (j : Nat) (l : List Int), L[j]? = some l → l.length = 240) : full L = true := by
  unfold full
  rw [List.all_eq_true]
  intro l hl
  obtain ⟨j, hj⟩ := List.getElem?_of_mem hl
  simpa using h j l hj
theorem flat_length (L : List (List Int)) (h : full L = true) : L.flatten.length = 240 * L.length := by
  induction L with
  | nil => rfl
  | cons l L ih =>
    unfold full at h
    rw [List.all_cons, Bool.and_eq_true] at h
    have h1 : l.length = 240 := by simpa using h.1
    rw [List.flatten_cons, List.length_append, ih h.2, h1, List.length_cons]
    omega
theorem flat_get (L : List (List Int)) (h : full L = true) : ∀ (k r : Nat) (l : List Int), L[k]? = some l → r < 240 → L.flatten.getD (240 * k + r) 0 = l.getD r 0 := by
  induction L with
  | nil => intro k r l hk; simp at hk
  | cons l0 L ih =>
    intro k r l hk hr
    unfold full at h
    rw [List.all_cons, Bool.and_eq_true] at h
    have h1 : l0.length = 240 := by simpa using h.1
    rw [List.flatten_cons]
    rcases k with _ | k
    · simp at hk
      subst hk
      simp only [List.getD_eq_getElem?_getD]
      rw [List.getElem?_append_left (by omega)]
      simp
    · simp at hk
      have := ih h.2 k r l hk hr
      simp only [List.getD_eq_getElem?_getD] at this ⊢
      rw [List.getElem?_append_right (by omega), show 240 * (k + 1) + r - l0.length = 240 * k + r by omega]
      exact this
theorem zeros_not {l : List Int} {B i : Nat} (hi : B ≤ i) (h : l.getD i 0 ≠ 0) : zeros (l.drop B) = false := by
  unfold zeros
  rw [List.all_eq_false]
  have hl : i < l.length := by
    rcases Nat.lt_or_ge i l.length with h1 | h1
    · exact h1
    · exact absurd (by rw [List.getD_eq_getElem?_getD, List.getElem?_eq_none h1]; rfl) h
  refine ⟨l[i], ?_, ?_⟩
  · rw [List.mem_iff_getElem]
    exact ⟨i - B, by rw [List.length_drop]; omega, by rw [List.getElem_drop]; congr 1; omega⟩
  · rw [List.getD_eq_getElem?_getD, List.getElem?_eq_getElem hl] at h
    simpa using h
theorem zeros_of {l : List Int} {B : Nat} (h : ∀ i, B ≤ i → i < l.length → l.getD i 0 = 0) : zeros (l.drop B) = true := by
  unfold zeros
  rw [List.all_eq_true]
  intro x hx
  rw [List.mem_iff_getElem] at hx
  obtain ⟨j, hj, rfl⟩ := hx
  rw [List.length_drop] at hj
  have := h (B + j) (by omega) (by omega)
  rw [List.getD_eq_getElem?_getD, List.getElem?_eq_getElem (by omega)] at this
  rw [List.getElem_drop]
  simpa using this
theorem bs_at {ps : List Pg} {j : Nat} {p : Pg} (h : ps[j]? = some p) : (ps.map Pg.bs)[j]? = some p.bs := by rw [List.getElem?_map, h]; rfl
theorem take_snoc {F : List Int} {M : Nat} {x : Int} (hM : M < F.length) (hx : F.getD M 0 = x) : F.take (M + 1) = F.take M ++ [x] := by
  rw [List.getD_eq_getElem?_getD, List.getElem?_eq_getElem hM] at hx
  rw [List.take_add_one, List.getElem?_eq_getElem hM, ← hx]
  rfl
def GotB (w : World) (er : Int) (l : List Int) (e : Ending) (w' : World) : Prop := ∃ A' m c', e = .returned (.tuple #[.slice A' m c', .int .i64 er]) ∧ ReadsInt w' .u8 A' m l ∧ Below w.heap.size w w'
set_option maxRecDepth 100000 in
set_option maxHeartbeats 3200000 in
theorem rtake_at {A : Option Addr} {n c : Nat} {ps : List Pg} {b er : Int} {l : List Int} (w : World) (HR : ReadsP w A n ps) (h1 : -9223372036854775808 ≤ b) (h2 : b ≤ 9223372036854775807) (he : tkE (ps.map Pg.bs) b = er) (hl : tkL (ps.map Pg.bs) b = l) :
    Calls Tryd.prog 9 #[.slice A n c, .int .i64 b] w (GotB w er l) := by
  have R0 := Lib.hid HR
  have L0 := Lib.hid HR.row.1
  have HE := Lib.hid he
  have HL := Lib.hid hl
  have N9 := Lib.hid HR.row.2.1
  clear HR he hl
  go_enter Tryd.func9, Tryd.ntmps9
  by_cases hb0 : b < 0
  · have d0 : decide (b < 0) = true := decide_eq_true hb0
    obtain ⟨e1, e2⟩ := tk_arg (L := ps.map Pg.bs) (b := b) (.inl hb0)
    rw [HE.out] at e1
    rw [HL.out] at e2
    subst e1
    subst e2
    clear hb0 h1 h2
    go_wp2_with fail
    go_ret2
    exact ⟨none, 0, 0, rfl, reads_nil _ _ _, Below.refl _ _⟩
  have d0 : decide (b < 0) = false := decide_eq_false hb0
  by_cases hb1 : 1024 < b
  · have d1 : decide (1024 < b) = true := decide_eq_true hb1
    obtain ⟨e1, e2⟩ := tk_arg (L := ps.map Pg.bs) (b := b) (.inr hb1)
    rw [HE.out] at e1
    rw [HL.out] at e2
    subst e1
    subst e2
    clear hb0 hb1 h1 h2
    go_wp2_with fail
    go_ret2
    exact ⟨none, 0, 0, rfl, reads_nil _ _ _, Below.refl _ _⟩
  have d1 : decide (1024 < b) = false := decide_eq_false hb1
  obtain ⟨B, rfl⟩ := Int.eq_ofNat_of_zero_le (show 0 ≤ b by omega)
  obtain ⟨m, hmm⟩ : ∃ m, np B = m := ⟨_, rfl⟩
  have MP := Lib.hid (show pagesN (B : Int) = (m : Int) by rw [pages_np, hmm])
  have MM := Lib.hid hmm
  have m5 : m ≤ 5 := by rw [← hmm]; unfold np; omega
  have M5 := Lib.hid m5
  have B5 := Lib.hid (show B ≤ 1024 ∧ B ≤ 240 * m by rw [← hmm]; unfold np; omega)
  clear hmm hb0 hb1 h1 h2
  by_cases hs : n < m
  · have d2 : decide (n < m) = true := decide_eq_true hs
    have d2' : decide ((n : Int) < (m : Int)) = true := decide_eq_true (by omega)
    obtain ⟨e1, e2⟩ := tk_short (L := ps.map Pg.bs) B5.out.1 (by rw [List.length_map, L0.out, MM.out]; exact hs)
    rw [HE.out] at e1
    rw [HL.out] at e2
    subst e1
    subst e2
    clear hs m5
    go_wp2_with fail
    refine (rpages_any _ (by have := B5.out; omega) (by have := B5.out; omega) MP.out).mono ?_; rintro e w1 ⟨rfl, rfl⟩
    go_wp2_with fail
    go_ret2
    exact ⟨none, 0, 0, rfl, reads_nil _ _ _, Below.refl _ _⟩
  have d2 : decide (n < m) = false := decide_eq_false hs
  have d2' : decide ((n : Int) < (m : Int)) = false := decide_eq_false (by omega)
  by_cases hg : m < n
  · have d3 : decide (m < n) = true := decide_eq_true hg
    have d3' : decide ((m : Int) < (n : Int)) = true := decide_eq_true (by omega)
    obtain ⟨e1, e2⟩ := tk_long (L := ps.map Pg.bs) B5.out.1 (by rw [List.length_map, L0.out, MM.out]; exact hg)
    rw [HE.out] at e1
    rw [HL.out] at e2
    subst e1
    subst e2
    clear hs hg m5
    go_wp2_with fail
    refine (rpages_any _ (by have := B5.out; omega) (by have := B5.out; omega) MP.out).mono ?_; rintro e w1 ⟨rfl, rfl⟩
    go_wp2_with fail
    refine (rpages_any _ (by have := B5.out; omega) (by have := B5.out; omega) MP.out).mono ?_; rintro e w1 ⟨rfl, rfl⟩
    go_wp2_with fail
    go_ret2
    exact ⟨none, 0, 0, rfl, reads_nil _ _ _, Below.refl _ _⟩
  have d3 : decide (m < n) = false := decide_eq_false hg
  have d3' : decide ((m : Int) < (n : Int)) = false := decide_eq_false (by omega)
  obtain rfl : m = n := by omega
  clear hs hg
  go_wp2_with fail
  refine (rpages_any _ (by have := B5.out; omega) (by have := B5.out; omega) MP.out).mono ?_; rintro e w1 ⟨rfl, rfl⟩
  go_wp2_with fail
  refine (rpages_any _ (by have := B5.out; omega) (by have := B5.out; omega) MP.out).mono ?_; rintro e w1 ⟨rfl, rfl⟩
  go_wp2_with fail
  clear d0 d1 d2 d2' d3 d3'

  have QL := Lib.hid (show (ps.map Pg.bs).length = np B by rw [List.length_map, L0.out, MM.out])
  go_loopw [7] (fun iv wr => ∃ j, j ≤ m ∧ iv = .int .i64 (j : Int) ∧ Below w.heap.size w wr ∧ (∀ (i : Nat) (x : List Int), i < j → (ps.map Pg.bs)[i]? = some x → x.length = 240)) (fun iv _ => m - (intOf iv).toNat)
  case atStart => exact ⟨0, by omega, rfl, Below.refl _ _, fun i x hi => absurd hi (by omega)⟩
  case round =>
    obtain ⟨j, hj, rfl, hbw, hall⟩ := hrel
    have HA := Lib.hid hall
    have BW := Lib.hid hbw
    clear hall hbw
    by_cases hlt : j < m
    · have dk : decide ((j : Int) < (m : Int)) = true := decide_eq_true (by omega)
      obtain ⟨a, p, rfl, hpj, hc, hr⟩ := (R0.out.below BW.out).get j hlt
      obtain ⟨pa, pn, pc, pb⟩ := p
      dsimp only at hc hr
      have PJ := Lib.hid (bs_at hpj)
      have PN := Lib.hid hr.1
      have JJ := Lib.hid hlt
      clear hpj hr hj
      by_cases h240 : pn = 240
      · have dn : ((pn : Int) != 240) = false := by rw [h240]; rfl
        have H2 := Lib.hid h240
        clear h240
        go_wp2_with fail
        go_roundw
        case rel =>
          refine ⟨j + 1, JJ.out, by push_cast; rfl, BW.out, fun i x hi hx => ?_⟩
          rcases Nat.lt_or_ge i j with hij | hij
          · exact HA.out i x hij hx
          · obtain rfl : i = j := by omega
            rw [PJ.out] at hx
            injection hx with hx
            subst hx
            exact PN.out.trans H2.out
        case measure => have := JJ.out; simp [intOf]; omega
      · have dn : ((pn : Int) != 240) = true := by simp; omega
        obtain ⟨e1, e2⟩ := tk_form (L := ps.map Pg.bs) B5.out.1 QL.out (not_full PJ.out (by have := PN.out; dsimp only at this ⊢; omega) _)
        rw [HE.out] at e1
        rw [HL.out] at e2
        subst e1
        subst e2
        clear h240
        go_wp2_with fail
        go_ret2
        exact ⟨none, 0, 0, rfl, reads_nil _ _ _, BW.out⟩
    · obtain rfl : j = m := by omega
      have dk : decide ((j : Int) < (j : Int)) = false := decide_eq_false (by omega)
      have FU := Lib.hid (full_of (L := ps.map Pg.bs) (fun i x hx => HA.out i x (by have := (List.getElem?_eq_some_iff.1 hx).1; rw [List.length_map, L0.out] at this; exact this) hx))
      have FL := Lib.hid (show (ps.map Pg.bs).flatten.length = 240 * j by rw [flat_length _ FU.out, List.length_map, L0.out])
      obtain ⟨F, hF⟩ : ∃ F, (ps.map Pg.bs).flatten = F := ⟨_, rfl⟩
      have HF := Lib.hid hF
      have FL2 := Lib.hid (show F.length = 240 * j by rw [← hF]; exact FL.out)
      obtain ⟨T, hT⟩ : ∃ T, 240 * j = T := ⟨_, rfl⟩
      have hT2 : (240 : Int) * (j : Int) = (T : Int) := by omega
      have TT := Lib.hid hT
      have T9 : (T : Int) ≤ 1200 := by omega
      clear hlt hj HA hF hT dk
      go_wp2_with fail
      go_loopw [6, 8] (fun v iv wr => ∃ (i M : Nat) (A' : Option Addr) (c' : Nat), i ≤ T ∧ iv = .int .i64 (i : Int) ∧ M = min i B ∧ v = .slice A' M c' ∧ wr.ownsRow w.heap.size 5 1 (.slice A' M c') M (nums .u8 (F.take M)) ∧ (∀ x, B ≤ x → x < i → F.getD x 0 = 0) ∧ Below w.heap.size w wr) (fun _ iv _ => T - (intOf iv).toNat)
      case atStart => exact ⟨0, 0, none, 0, by omega, rfl, by omega, rfl, by rw [List.take_zero]; exact own_nil _ _ _ _, fun x h1 h2 => absurd h2 (by omega), BW.out⟩
      case round =>
        obtain ⟨i, M, A', c', hi, rfl, hM, rfl, hown, hz, hbb⟩ := hrel
        have OO := Lib.hid hown
        have ZZ := Lib.hid hz
        have BB := Lib.hid hbb
        have MI := Lib.hid hM
        clear hown hz hM
        by_cases hit : i < T
        · obtain ⟨k, hk⟩ : ∃ k, i / 240 = k := ⟨_, rfl⟩
          obtain ⟨r, hr⟩ : ∃ r, i % 240 = r := ⟨_, rfl⟩
          have KR := Lib.hid (show i = 240 * k + r ∧ r < 240 by omega)
          have q1 : Int.tdiv (i : Int) 240 = (k : Int) := by rw [Int.tdiv_eq_ediv_of_nonneg (by omega)]; omega
          have q2 : Int.tmod (i : Int) 240 = (r : Int) := by rw [Int.tmod_eq_emod_of_nonneg (by omega)]; omega
          have hkj : k < j := by have := TT.out; omega
          obtain ⟨a, p, rfl, hpj, hc, hrr⟩ := (R0.out.below hbb).get k hkj
          obtain ⟨pa, pn, pc, pb⟩ := p
          dsimp only at hc hrr
          have hpl : pb.length = 240 := by
            have h9 := List.all_eq_true.1 FU.out pb (List.mem_of_getElem? (bs_at hpj))
            simpa using h9
          have hpn : pn = 240 := by rw [← hrr.1]; exact hpl
          subst hpn
          obtain ⟨ad, rfl, hx⟩ := cell_at hrr r (by omega)
          obtain ⟨x, hxx⟩ : ∃ x, pb.getD r 0 = x := ⟨_, rfl⟩
          rw [hxx] at hx
          have FX := Lib.hid (show F.getD i 0 = x by rw [← HF.out, KR.out.1, flat_get _ FU.out k r pb (bs_at hpj) KR.out.2, hxx])
          have di : decide ((i : Int) < (T : Int)) = true := decide_eq_true (by omega)
          have hr9 : r < 240 := by omega
          have II := Lib.hid hit
          clear hk hr hpj hrr hpl hxx hbb hi
          by_cases hib : i < B
          · have d1 : decide ((i : Int) < (B : Int)) = true := decide_eq_true (by omega)
            have HIB := Lib.hid hib
            have MB := Lib.hid (show M = i ∧ (F.take M).length = M by have := MI.out; have := FL2.out; have := TT.out; have := II.out; rw [List.length_take]; omega)
            go_wp2_with (at_builtin; refine print_append_num (w0 := w) (W := wr) w.heap.size rfl _ _ 24 5 .u8 1 rfl Tryd.underlying24 info8 (by omega) (.slice A' M c') (F.take M) x rfl (by simp [Act.eval, Act.put]) (by rw [MB.out.2]; exact OO.out) BB.out BB.out.size (by rw [MB.out.2]; have := MI.out; omega) ?_)
            intro v5 w5 hown hb5 hg5 hat
            have hown' : w5.ownsRow w.heap.size 5 1 v5 (M + 1) (nums .u8 (F.take (M + 1))) := by
              have e1 : F.take (M + 1) = F.take M ++ [x] := take_snoc (by have := MB.out; have := FL2.out; have := TT.out; have := II.out; omega) (by rw [MB.out.1]; exact FX.out)
              have e2 : (F.take M ++ [x]).length = M + 1 := by rw [List.length_append, MB.out.2]; rfl
              rw [e1]
              rw [← e2]
              simpa using hown
            obtain ⟨A5, c5, rfl⟩ := own_slice hown'
            have O5 := Lib.hid hown'
            have BB5 := Lib.hid hb5
            clear hown hown' hb5 hg5 hat
            go_wp2_with fail
            go_roundw
            case rel => exact ⟨i + 1, M + 1, A5, c5, II.out, by push_cast; rfl, by have := MB.out.1; have := HIB.out; omega, rfl, O5.out, fun x h1 h2 => by have := HIB.out; omega, BB5.out⟩
            case measure => have := II.out; simp [intOf]; omega
          · have d1 : decide ((i : Int) < (B : Int)) = false := decide_eq_false (by omega)
            have HIB := Lib.hid hib
            by_cases hx0 : x = 0
            · have dx : (x != 0) = false := by rw [hx0]; rfl
              have X0 := Lib.hid hx0
              clear hx0 hib
              go_wp2_with fail
              go_roundw
              case rel =>
                refine ⟨i + 1, M, A', c', II.out, by push_cast; rfl, by have := MI.out; have := HIB.out; omega, rfl, OO.out, fun y h1 h2 => ?_, BB.out⟩
                rcases Nat.lt_or_ge y i with hy | hy
                · exact ZZ.out y h1 hy
                · obtain rfl : y = i := by omega
                  rw [FX.out, X0.out]
              case measure => have := II.out; simp [intOf]; omega
            · have dx : (x != 0) = true := by simpa using hx0
              obtain ⟨e1, e2⟩ := tk_form (L := ps.map Pg.bs) B5.out.1 QL.out (by rw [HF.out, zeros_not (i := i) (by have := HIB.out; omega) (by rw [FX.out]; exact hx0), Bool.and_false])
              rw [HE.out] at e1
              rw [HL.out] at e2
              subst e1
              subst e2
              clear hx0 hib
              go_wp2_with fail
              go_ret2
              exact ⟨none, 0, 0, rfl, reads_nil _ _ _, BB.out⟩
        · obtain rfl : i = T := by omega
          have di : decide ((i : Int) < (i : Int)) = false := decide_eq_false (by omega)
          obtain ⟨e1, e2⟩ := tk_ok (L := ps.map Pg.bs) B5.out.1 QL.out FU.out (by rw [HF.out]; exact zeros_of (fun x h1 h2 => ZZ.out x h1 (by have := FL2.out; have := TT.out; omega)))
          rw [HE.out] at e1
          rw [HL.out, HF.out] at e2
          subst e1
          have E2 := Lib.hid e2
          have MQ := Lib.hid (show M = B by have := MI.out; have := B5.out; have := TT.out; omega)
          clear hit hi e2 hbb
          go_wp2_with fail
          go_ret2
          refine ⟨A', M, c', rfl, ?_, BB.out⟩
          rw [E2.out, ← MQ.out]
          exact reads_own OO.out
end Go.Proofs.YtnnclfaibcedoaaDoor.Cnt
