/- The walk of the law NodeCut: the call returns true, nothing that was there is changed. -/
import Derived.Test.YtdekplalhfpooaaNodP
set_option linter.unusedVariables false
set_option linter.unusedSimpArgs false
namespace Go.Proofs.Ytdekplalhfpooaa.Nod
open Go Go.RowKit Go.Proofs.YtdekplalhfpooaaW.PrintWords Go.Proofs.YtdekplalhfpooaaW.PrintLast Go.Proofs.YtdekplalhfpooaaW.PrintMore Base Odr Hlp

theorem xor8 (a b : BitVec 8) : Go.bits .xor .u8 (a.toNat : Int) (b.toNat : Int) = ((a ^^^ b).toNat : Int) := by
  show IntKind.u8.wrap ((BitVec.ofInt 8 (a.toNat : Int) ^^^ BitVec.ofInt 8 (b.toNat : Int)).toNat : Int) = _
  have e : ∀ c : BitVec 8, BitVec.ofInt 8 (c.toNat : Int) = c := fun c => by simp
  rw [e, e]
  have h := (a ^^^ b).isLt
  have hw : ∀ n : Int, IntKind.u8.wrap n = n % 256 := fun n => by simp [IntKind.wrap, IntKind.bits, IntKind.signed]
  rw [hw]
  omega
theorem byte_vec {x : Int} (h : (Lit.int .u8 x).wf = true) : ∃ a : BitVec 8, x = (a.toNat : Int) := by
  have := le_of_wf8 h
  exact ⟨BitVec.ofNat 8 x.toNat, by rw [BitVec.toNat_ofNat]; omega⟩
theorem xor_byte {x y : Int} (hx : (Lit.int .u8 x).wf = true) (hy : (Lit.int .u8 y).wf = true) :
    (Lit.int .u8 (Go.bits .xor .u8 x y)).wf = true ∧ (y = 0 → Go.bits .xor .u8 x y = x) ∧ (y ≠ 0 → Go.bits .xor .u8 x y ≠ x) := by
  obtain ⟨a, rfl⟩ := byte_vec hx
  obtain ⟨b, rfl⟩ := byte_vec hy
  rw [xor8]
  refine ⟨wf8 ⟨by omega, by have := (a ^^^ b).isLt; omega⟩, fun h => ?_, fun h hh => h ?_⟩
  · have : b = 0#8 := by apply BitVec.eq_of_toNat_eq; simp; omega
    rw [this]; simp
  · have h1 : a ^^^ b = a := by apply BitVec.eq_of_toNat_eq; omega
    have h2 : b = 0#8 := by
      have : a ^^^ (a ^^^ b) = a ^^^ a := by rw [h1]
      rw [← BitVec.xor_assoc, BitVec.xor_self, BitVec.zero_xor] at this
      exact this
    rw [h2]; rfl
theorem le_of_wf16 {a : Int} (h : (Lit.int .u16 a).wf = true) : 0 ≤ a ∧ a < 65536 := by
  have hmin : IntKind.u16.min = 0 := rfl
  have hmax : IntKind.u16.max = 65535 := rfl
  simp only [Lit.wf, Bool.and_eq_true, decide_eq_true_eq] at h
  omega
theorem set_self {F : List Int} {i : Nat} {x : Int} (hi : i < F.length) (h : F[i]? = some x) : F.set i x = F := by
  apply List.ext_getElem?
  intro j
  rw [List.getElem?_set]
  split
  · rename_i e
    subst e
    rw [List.getElem?_eq_getElem hi] at h
    injection h with h
    simp [hi, h]
  · rfl
/-- One of whose bytes is another one: another node, or none. -/
theorem take_other {L L' : Bool} {K V K' V' : List Int} {i : Nat} {x y : Int} (hw : ∀ z ∈ (formN L K V).set i y, (Lit.int .u8 z).wf = true) (hi : i < (formN L K V).length) (hx : (formN L K V)[i]? = some x) (hne : y ≠ x) (h : takeN ((formN L K V).set i y) = ⟨0, L', K', V'⟩) :
    sameN L' L K' V' K V = false := by
  by_cases hs : sameN L' L K' V' K V = true
  · simp only [sameN, Bool.and_eq_true, decide_eq_true_eq] at hs
    obtain ⟨⟨rfl, rfl⟩, rfl⟩ := hs
    obtain ⟨-, -, -, z, hz, -⟩ := take_back hw h
    have hl : ((formN L' K' V').set i y).length = (formN L' K' V' ++ z).length := by rw [← hz]
    rw [List.length_set, List.length_append] at hl
    have : z = [] := List.eq_nil_of_length_eq_zero (by omega)
    subst this
    rw [List.append_nil] at hz
    have h2 : ((formN L' K' V').set i y)[i]? = some y := by rw [List.getElem?_set]; simp [hi]
    rw [hz, hx] at h2
    injection h2 with h2
    exact absurd h2.symm hne
  · simpa using hs

set_option maxRecDepth 100000 in
set_option maxHeartbeats 6400000 in
theorem cut_walk (L : Bool) (ak : Option Addr) (ck : Nat) (K : List Int) (w : World) (hrk : ReadsInt w .u64 ak K.length K) (hlk : K.length * 8 ≤ 140737488351232) (hwk : ∀ x ∈ K, (Lit.int .u64 x).wf = true) (hck : K.length ≤ ck)
    (av : Option Addr) (cv : Nat) (V : List Int) (hrv : ReadsInt w .u64 av V.length V) (hlv : V.length * 8 ≤ 140737488351232) (hwv : ∀ x ∈ V, (Lit.int .u64 x).wf = true) (hcv : V.length ≤ cv)
    (at_ : Int) (wat : (Lit.int .u16 at_).wf = true) (by_ : Int) (wby : (Lit.int .u8 by_).wf = true) :
    Calls Try.prog 9 #[.agg #[.bool L, .slice ak K.length ck, .slice av V.length cv], .int .u16 at_, .int .u8 by_] w fun e w' => e = .returned (.bool true) ∧ Below w.heap.size w w' := by
  obtain ⟨nk, hnk⟩ : ∃ n, n = K.length := ⟨_, rfl⟩
  obtain ⟨nv, hnv⟩ : ∃ n, n = V.length := ⟨_, rfl⟩
  rw [← hnk] at hrk ⊢
  rw [← hnv] at hrv ⊢
  clear hck hcv hlk hlv hnk hnv
  obtain ⟨w1, hw1, b1, f1, s1⟩ := made w #[.bool L, .slice ak nk ck, .slice av nv cv] 24
  have F1 := Lib.hid f1
  have B1 := Lib.hid b1
  have RK1 := Lib.hid (ReadsInt.below hrk b1)
  have RV1 := Lib.hid (ReadsInt.below hrv b1)
  have WK := Lib.hid hwk
  have WV := Lib.hid hwv
  have WB := Lib.hid wby
  obtain ⟨at0, at1⟩ := le_of_wf16 wat
  clear b1 f1 s1 hwk hwv hrk hrv wat wby
  go_enter Try.func9, Try.ntmps9
  go_wp2_with ((with_reducible refine wpList_load_row rfl 24 (.tmp 3) rfl w.heap.size ?_ 24 _ _ _ F1.out Try.underlying24 ?_ (size3 _ _ _) ?_); rfl; rfl)
  by_cases hm : mayN K V = true
  · have HM := Lib.hid hm
    obtain ⟨N, hN⟩ : ∃ N, 2 + 16 * nk = N := ⟨_, rfl⟩
    obtain ⟨F, hF⟩ : ∃ F, formN L K V = F := ⟨_, rfl⟩
    have HF := Lib.hid hF
    have FL := Lib.hid (show F.length = N by rw [← hF, form_len, ← hN, RK1.out.1])
    have FW := Lib.hid (show ∀ x ∈ F, (Lit.int .u8 x).wf = true by rw [← hF]; exact form_wf L K V (may_le hm).2.1)
    have hN1 : (N : Int) ≤ 130 ∧ 18 ≤ N := by have := may_le hm; have := RK1.out.1; omega
    obtain ⟨cut, hcut⟩ : ∃ c, at_.toNat % N = c := ⟨_, rfl⟩
    have hcN : cut < N := by rw [← hcut]; exact Nat.mod_lt _ (by omega)
    have hmod : at_ % (N : Int) = (cut : Int) := by have h1 : (at_.toNat : Int) = at_ := Int.toNat_of_nonneg at0; rw [← hcut, ← h1, Int.toNat_natCast]; exact (Int.natCast_emod _ _).symm
    have HN := Lib.hid hN
    have HC := Lib.hid hcN
    refine (put_at L _ RK1.out RV1.out hm hN hF).mono ?_; rintro e w2 ⟨A2, c2, rfl, ho, hb⟩
    clear hm hF hN hcut
    have X2 := Lib.hid (reads_own_of ho FL.out rfl)
    have C2 := Lib.hid (own_cap ho)
    have hcc : (cut : Int) ≤ (c2 : Int) := by have := own_cap ho; omega
    have hci : (cut : Int) < (N : Int) := by omega
    have hNz : ((N : Int) == 0) = false := by simp; omega
    have F2 := Lib.hid (keep_row F1.out hb)
    have RK2 := Lib.hid (ReadsInt.below RK1.out hb)
    have RV2 := Lib.hid (ReadsInt.below RV1.out hb)
    have B2 := Lib.hid (below_then B1.out B1.out.size hb)
    clear ho hb F1 RK1 RV1 hw1
    go_wp2_with fail
    have TC := Lib.hid (show takeN (F.take cut) = ⟨4, false, [], []⟩ by rw [← HF.out]; exact take_cut L K V cut HM.out WK.out WV.out (by rw [HF.out, FL.out]; exact HC.out))
    refine (take_at (F.take cut) _ (X2.out.take_ cut (Nat.le_of_lt HC.out)) (fun x hx => FW.out x (List.mem_of_mem_take hx)) (by have := C2.out; have := HC.out; omega) TC.out rfl rfl).mono ?_; rintro e w3 ⟨A3, c3, A4, c4, rfl, -, -, -, hb⟩
    obtain ⟨w4, hw4, b4, f4, s4⟩ := made w3 #[.bool false, .slice none 0 0, .slice none 0 0] 24
    obtain ⟨w5, hw5⟩ : ∃ w5, w4.setRow w3.heap.size #[.bool false, .slice A3 0 c3, .slice A4 0 c4] = w5 := ⟨_, rfl⟩
    have F4 := Lib.hid f4
    have D5 := Lib.hid (show Below w2.heap.size w2 w5 by rw [← hw5]; exact below_setRow (below_then hb hb.size b4) hb.size _)
    obtain ⟨w6, hw6, b6, f6, s6⟩ := made w5 #[] 5
    have O6 := Lib.hid (show w6.ownsRow w5.heap.size 5 1 (.slice (some ⟨w5.heap.size, 0, none⟩) 0 0) 0 (nums .u8 []) by rw [← hw6]; exact own_lit w5 w5.heap.size 5 .u8 [] (Nat.le_refl _) (by simp))
    have D6 := Lib.hid b6
    have X6 := Lib.hid (ReadsInt.below (ReadsInt.below X2.out D5.out) b6)
    clear hb b4 f4 s4 b6 f6 s6
    go_wp2_with (first | (at_builtin; refine print_append_row (w0 := w5) (W := w6) w5.heap.size rfl _ _ 41 5 .u8 1 rfl Try.underlying41 info8 (by omega) (.slice (some ⟨w5.heap.size, 0, none⟩) 0 0) [] F A2 N c2 rfl rfl O6.out X6.out D6.out D6.out.size (by have := hN1.1; simp; omega) ?_) | ((with_reducible refine wpList_store_row rfl 24 (.tmp 10) (.tmp 41) rfl w3.heap.size #[.bool false, .slice A3 0 c3, .slice A4 0 c4] ?_ ?_ 24 _ F4.out (size3 _ _ _) ?_ (one3 _ _ _ _ _ _ _) ?_); rfl; rfl; rfl; rw [hw5]))
    intro v7 w7 hown hb hg hat
    have hown' : w7.ownsRow w5.heap.size 5 1 v7 N (nums .u8 F) := by simpa [FL.out] using hown
    obtain ⟨g7, c7, rfl, hg7, -⟩ := hown'.form (by omega)
    have O7 := Lib.hid hown'
    have D7 := Lib.hid (below_then D5.out D5.out.size hb)
    clear hown hown' hb hg hat hw6 hw5 hw4
    obtain ⟨ya, yz⟩ := own_at O7.out (cut : Int) (by omega) (by have := HC.out; omega)
    obtain ⟨x, hx⟩ : ∃ x, rd F (cut : Int) = x := ⟨_, rfl⟩
    rw [hx] at ya
    have hxi : F[cut]? = some x := by rw [← hx, List.getElem?_eq_getElem (by rw [FL.out]; exact HC.out)]; simp [rd, List.getElem?_eq_getElem (show cut < F.length by rw [FL.out]; exact HC.out)]
    have wx : (Lit.int .u8 x).wf = true := FW.out x (List.mem_of_getElem? hxi)
    obtain ⟨y, hy⟩ : ∃ y, Go.bits .xor .u8 x by_ = y := ⟨_, rfl⟩
    have XB := Lib.hid (show (Lit.int .u8 y).wf = true ∧ (by_ = 0 → y = x) ∧ (by_ ≠ 0 → y ≠ x) by rw [← hy]; exact xor_byte wx WB.out)
    have HXI := Lib.hid hxi
    have ya' : w7.cell? ⟨g7, cut, none⟩ = some (.int .u8 x) := ya
    have yz' : w7.frozen? ⟨g7, cut, none⟩ = false := yz
    obtain ⟨w8, hw8⟩ : ∃ w8, w7.setCell ⟨g7, cut, none⟩ (.int .u8 y) = w8 := ⟨_, rfl⟩
    have o8 : w8.ownsRow w5.heap.size 5 1 (.slice (some ⟨g7, 0, none⟩) N c7) N (nums .u8 (F.set cut y)) := by rw [← hw8]; have h := (own_store O7.out (cut : Int) y).1; rw [Int.toNat_natCast] at h; exact h
    have Y8 := Lib.hid (reads_own_of o8 (by rw [List.length_set, FL.out]) rfl)
    have C8 := Lib.hid (own_cap o8)
    have YW := Lib.hid (show ∀ z ∈ F.set cut y, (Lit.int .u8 z).wf = true by
      intro z hz
      rcases List.mem_or_eq_of_mem_set hz with h1 | h1
      · exact FW.out z h1
      · rw [h1]; exact XB.out.1)
    have D8 := Lib.hid (show Below w2.heap.size w2 w8 by rw [← hw8]; exact D7.out.setCell (Nat.le_trans D5.out.size hg7) _)
    obtain ⟨er, L', K', V', hT⟩ : ∃ er L' K' V', takeN (F.set cut y) = ⟨er, L', K', V'⟩ := ⟨_, _, _, _, rfl⟩
    obtain ⟨nk', hnk'⟩ : ∃ m, K'.length = m := ⟨_, rfl⟩
    obtain ⟨nv', hnv'⟩ : ∃ m, V'.length = m := ⟨_, rfl⟩
    have TT := Lib.hid hT
    have NK := Lib.hid hnk'
    have NV := Lib.hid hnv'
    clear ya yz hx hxi wx hg7 o8 hT hnk' hnv'
    go_wp2_with fail
    clear hw8 ya' yz' hy
    refine (take_at (F.set cut y) _ Y8.out YW.out C8.out TT.out NK.out NV.out).mono ?_; rintro e w9 ⟨A5, c5, A6, c6, rfl, ho1, ho2, -, hb⟩
    obtain ⟨w10, hw10, b10, f10, s10⟩ := made w9 #[.bool false, .slice none 0 0, .slice none 0 0] 24
    obtain ⟨w11, hw11⟩ : ∃ w11, w10.setRow w9.heap.size #[.bool L', .slice A5 nk' c5, .slice A6 nv' c6] = w11 := ⟨_, rfl⟩
    have F10 := Lib.hid f10
    have M11 := Lib.hid (show w11.heap[w9.heap.size]? = some (.cells #[.bool L', .slice A5 nk' c5, .slice A6 nv' c6] 24) by rw [← hw11]; exact setRow_heap _ _ _ _ _ _ f10)
    have D11 := Lib.hid (show Below w8.heap.size w8 w11 by rw [← hw11]; exact below_setRow (below_then hb hb.size b10) hb.size _)
    have P1 := Lib.hid (show ReadsInt w11 .u64 A5 nk' K' from reads_own_of (show w11.ownsRow w8.heap.size 25 1 (.slice A5 nk' c5) nk' (nums .u64 K') by rw [← hw11]; exact own_setRow (pw_own_below ho1 b10) (fun he => by have := own_lt ho1 _ he.symm; omega) _) NK.out rfl)
    have P2 := Lib.hid (show ReadsInt w11 .u64 A6 nv' V' from reads_own_of (show w11.ownsRow w8.heap.size 25 1 (.slice A6 nv' c6) nv' (nums .u64 V') by rw [← hw11]; exact own_setRow (pw_own_below ho2 b10) (fun he => by have := own_lt ho2 _ he.symm; omega) _) NV.out rfl)
    have E11 := Lib.hid (below_then D8.out D8.out.size D11.out)
    clear ho1 ho2 hb b10 f10 s10
    have AFTER : True := trivial
    by_cases hb0 : by_ = 0
    · have hbb : (by_ == 0) = true := by simp [hb0]
      have hy0 := XB.out.2.1 hb0
      have TF := TT.out
      rw [hy0, set_self (by rw [FL.out]; exact HC.out) HXI.out, ← HF.out] at TF
      have TF2 := take_form L K V [] HM.out WK.out WV.out rfl
      rw [List.append_nil, TF] at TF2
      injection TF2 with q1 q2 q3 q4
      have HER := Lib.hid q1
      have HSM := Lib.hid (show sameN L' L K' V' K V = true by rw [q2, q3, q4]; exact same_refl _ _ _)
      have hee : (er == 0) = true := by simp [q1]
      clear TF q1 q2 q3 q4 hy0 hb0
      go_wp2_with ((with_reducible refine wpList_store_row rfl 24 (.tmp 13) (.tmp 56) rfl w9.heap.size #[.bool L', .slice A5 nk' c5, .slice A6 nv' c6] ?_ ?_ 24 _ F10.out (size3 _ _ _) ?_ (one3 _ _ _ _ _ _ _) ?_); rfl; rfl; rfl; rw [hw11])
      refine (awake_any _).mono ?_; rintro e w12 ⟨rfl, hb⟩
      have D12 := Lib.hid hb
      have G12 := Lib.hid (below_then E11.out E11.out.size hb)
      have m12 := keep_row M11.out hb
      have n12 := keep_row F2.out G12.out
      have c0 : w12.cell? ⟨w9.heap.size, 0, none⟩ = some (.bool L') := cell_row m12 rfl
      have c1 : w12.cell? ⟨w9.heap.size, 1, none⟩ = some (.slice A5 nk' c5) := cell_row m12 rfl
      have c2' : w12.cell? ⟨w9.heap.size, 2, none⟩ = some (.slice A6 nv' c6) := cell_row m12 rfl
      have d0 : w12.cell? ⟨w.heap.size, 0, none⟩ = some (.bool L) := cell_row n12 rfl
      have d1 : w12.cell? ⟨w.heap.size, 1, none⟩ = some (.slice ak nk ck) := cell_row n12 rfl
      have d2 : w12.cell? ⟨w.heap.size, 2, none⟩ = some (.slice av nv cv) := cell_row n12 rfl
      clear hb m12 n12
      go_wp2_with fail
      refine (same_at _ (ReadsInt.below P1.out D12.out) (ReadsInt.below P2.out D12.out) (ReadsInt.below RK2.out G12.out) (ReadsInt.below RV2.out G12.out) HSM.out).mono ?_; rintro e w13 ⟨rfl, hb⟩
      have B13 := Lib.hid (below_then (below_then B2.out B2.out.size G12.out) (below_then B2.out B2.out.size G12.out).size hb)
      clear hb
      go_wp2_with fail
      go_ret
      exact ⟨rfl, B13.out⟩
    · have hbb : (by_ == 0) = false := by simp [hb0]
      have hyx := XB.out.2.2 hb0
      by_cases he0 : er = 0
      · have hee : (er != 0) = false := by simp [he0]
        have HSM := Lib.hid (show sameN L' L K' V' K V = false from take_other (i := cut) (x := x) (y := y) (by rw [HF.out]; exact YW.out) (by rw [HF.out, FL.out]; exact HC.out) (by rw [HF.out]; exact HXI.out) hyx (by rw [HF.out, TT.out, he0]))
        clear he0 hb0 hyx
        go_wp2_with ((with_reducible refine wpList_store_row rfl 24 (.tmp 13) (.tmp 56) rfl w9.heap.size #[.bool L', .slice A5 nk' c5, .slice A6 nv' c6] ?_ ?_ 24 _ F10.out (size3 _ _ _) ?_ (one3 _ _ _ _ _ _ _) ?_); rfl; rfl; rfl; rw [hw11])
        refine (awake_any _).mono ?_; rintro e w12 ⟨rfl, hb⟩
        have D12 := Lib.hid hb
        have G12 := Lib.hid (below_then E11.out E11.out.size hb)
        have m12 := keep_row M11.out hb
        have n12 := keep_row F2.out G12.out
        have c0 : w12.cell? ⟨w9.heap.size, 0, none⟩ = some (.bool L') := cell_row m12 rfl
        have c1 : w12.cell? ⟨w9.heap.size, 1, none⟩ = some (.slice A5 nk' c5) := cell_row m12 rfl
        have c2' : w12.cell? ⟨w9.heap.size, 2, none⟩ = some (.slice A6 nv' c6) := cell_row m12 rfl
        have d0 : w12.cell? ⟨w.heap.size, 0, none⟩ = some (.bool L) := cell_row n12 rfl
        have d1 : w12.cell? ⟨w.heap.size, 1, none⟩ = some (.slice ak nk ck) := cell_row n12 rfl
        have d2 : w12.cell? ⟨w.heap.size, 2, none⟩ = some (.slice av nv cv) := cell_row n12 rfl
        clear hb m12 n12
        go_wp2_with fail
        refine (same_at _ (ReadsInt.below P1.out D12.out) (ReadsInt.below P2.out D12.out) (ReadsInt.below RK2.out G12.out) (ReadsInt.below RV2.out G12.out) HSM.out).mono ?_; rintro e w13 ⟨rfl, hb⟩
        have B13 := Lib.hid (below_then (below_then B2.out B2.out.size G12.out) (below_then B2.out B2.out.size G12.out).size hb)
        clear hb
        go_wp2_with fail
        go_ret
        exact ⟨rfl, B13.out⟩
      · have hee : (er != 0) = true := by simp [he0]
        clear he0 hb0 hyx
        go_wp2_with ((with_reducible refine wpList_store_row rfl 24 (.tmp 13) (.tmp 56) rfl w9.heap.size #[.bool L', .slice A5 nk' c5, .slice A6 nv' c6] ?_ ?_ 24 _ F10.out (size3 _ _ _) ?_ (one3 _ _ _ _ _ _ _) ?_); rfl; rfl; rfl; rw [hw11])
        refine (awake_any _).mono ?_; rintro e w12 ⟨rfl, hb⟩
        have B12 := Lib.hid (below_then (below_then B2.out B2.out.size E11.out) (below_then B2.out B2.out.size E11.out).size hb)
        clear hb
        go_wp2_with fail
        go_ret
        exact ⟨rfl, B12.out⟩
  · have HM := Lib.hid (show mayN K V = false by simpa using hm)
    clear hm
    refine (put_no L K V ak av nk ck nv cv _ RK1.out RV1.out HM.out).mono ?_; rintro e w2 ⟨rfl, hb⟩
    have F2 := Lib.hid (keep_row F1.out hb)
    have RK2 := Lib.hid (ReadsInt.below RK1.out hb)
    have RV2 := Lib.hid (ReadsInt.below RV1.out hb)
    have B2 := Lib.hid (below_then B1.out B1.out.size hb)
    clear hb F1 RK1 RV1 hw1
    go_wp2_with fail
    refine (awake_any _).mono ?_; rintro e w3 ⟨rfl, hb⟩
    have f3 := keep_row F2.out hb
    have c0 : w3.cell? ⟨w.heap.size, 0, none⟩ = some (.bool L) := cell_row f3 rfl
    have c1 : w3.cell? ⟨w.heap.size, 1, none⟩ = some (.slice ak nk ck) := cell_row f3 rfl
    have c2 : w3.cell? ⟨w.heap.size, 2, none⟩ = some (.slice av nv cv) := cell_row f3 rfl
    have B3 := Lib.hid (below_then B2.out B2.out.size hb)
    have RK3 := Lib.hid (ReadsInt.below RK2.out hb)
    have RV3 := Lib.hid (ReadsInt.below RV2.out hb)
    clear hb f3
    go_wp2_with fail
    refine (may_at L _ RK3.out RV3.out HM.out).mono ?_; rintro e w4 ⟨rfl, hb⟩
    have B4 := Lib.hid (below_then B3.out B3.out.size hb)
    clear hb
    go_wp2_with fail
    go_ret
    exact ⟨rfl, B4.out⟩
end Go.Proofs.Ytdekplalhfpooaa.Nod
