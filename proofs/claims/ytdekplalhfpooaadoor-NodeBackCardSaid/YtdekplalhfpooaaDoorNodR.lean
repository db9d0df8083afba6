/- The walk of the law NodeBack: the call returns true, nothing that was there is changed. -/
import Derived.Test.YtdekplalhfpooaaDoorTrp
set_option linter.unusedVariables false
set_option linter.unusedSimpArgs false
namespace Go.Proofs.YtdekplalhfpooaaDoor.Nod
open Go Go.RowKit Go.Proofs.YtdekplalhfpooaaDoorW.PrintWords Go.Proofs.YtdekplalhfpooaaDoorW.PrintLast Go.Proofs.YtdekplalhfpooaaDoorW.PrintMore Base Odr Hlp Trm

theorem take_nt {b : List Int} {er : Int} {L : Bool} {K V : List Int} (h : takeN b = ⟨er, L, K, V⟩) (he : er ≠ 0) : L = false ∧ K = [] ∧ V = [] := by
  have nt : ∀ e, ntN e = (⟨er, L, K, V⟩ : TN) → L = false ∧ K = [] ∧ V = [] := fun e hh => by injection hh with _ h1 h2 h3; exact ⟨h1.symm, h2.symm, h3.symm⟩
  unfold takeN at h
  split at h
  · exact nt _ h
  · split at h
    · exact nt _ h
    · split at h
      · exact nt _ h
      · split at h
        · exact nt _ h
        · unfold endN at h
          split at h
          · exact nt _ h
          · split at h
            · injection h with h1; exact absurd h1.symm he
            · exact nt _ h
theorem zero_cells (m : Nat) : (Builtin.zeroCells (Value.int .u8 0).cells m).toList = nums .u8 (List.replicate m 0) := by
  apply List.ext_getElem
  · simp [nums, Builtin.zeroCells, Value.cells]
  · intro i h1 h2
    simp [nums, Builtin.zeroCells, Value.cells, Nat.mod_one]
theorem app_zeros {w : World} {base n c m : Nat} {A : Option Addr} {xs : List Int} (hown : w.ownsRow base 5 1 (.slice A n c) n (nums .u8 xs)) (hl : n + m ≤ 140737488355328) (hb : base ≤ w.heap.size) :
    ∃ A' c' w', (∀ ty, (Builtin.append_ #[25, 5] ty #[.slice A n c, .int .u8 (m : Int)]).run Tryd.prog w = .ok (.slice A' (n + m) c') w') ∧ w'.ownsRow base 5 1 (.slice A' (n + m) c') (n + m) (nums .u8 (xs ++ List.replicate m 0)) ∧ w.grownBy w' (Value.slice A n c).ownBlock := by
  obtain ⟨i, hi, hzz⟩ := Option.map_eq_some_iff.1 info8
  simp only [Prod.mk.injEq] at hzz
  obtain ⟨hz0, hz1, hz2⟩ := hzz
  obtain ⟨v1, w1, hr, ho, hg, -⟩ := run_append_zeros (P := Tryd.prog) w base 25 5 0 5 i (.int .u8 0) 1 1 Tryd.underlying25 Tryd.underlying5 hi hz0 hz1 hz2 rfl (by omega) (by omega) (.slice A n c) n (nums .u8 xs) hown .u8 m (by rw [zero_cells]; intro u hu; simp only [nums, List.mem_map] at hu; obtain ⟨x, -, rfl⟩ := hu; rfl) (by omega) hb
  rw [zero_cells, show nums .u8 xs ++ nums .u8 (List.replicate m 0) = nums .u8 (xs ++ List.replicate m 0) by simp [nums]] at ho
  obtain ⟨A', c', rfl⟩ := own_slice ho
  refine ⟨A', c', w1, fun ty => ?_, ho, hg⟩
  have : (Builtin.append_ #[25, 5] ty #[.slice A n c, .int .u8 (m : Int)]) = (Builtin.append_ #[25, 5] 0 #[.slice A n c, .int .u8 (m : Int)]) := rfl
  rw [this]; exact hr
theorem wp_app2 {ops : Array Oper} {rest : List Oper} {o : Oper} {a : Act} {Q : Exit → Act → World → Prop} {w w' : World} {v u r : Value} {t t2 : TypeId} (hgd : o.guard = none) (s x : Operand)
    (ho : o.op = .call { callee := .builtin .append, args := #[s, x], argTypes := #[t, t2] }) (hs : a.eval s = v) (hx : a.eval x = u) (hr : ∀ ty, (Builtin.append_ #[t, t2] ty #[v, u]).run Tryd.prog w = .ok r w')
    (h : wpList Tryd.prog ops Q rest (a.put o.dst r) w') : wpList Tryd.prog ops Q (o :: rest) a w := by
  refine wpList_plain hgd fun K hK => ?_
  unfold Oper.wp execOp
  simp only [ho, resolve, invoke, builtin, Sem.run_bind, Sem.run_pure, Result.andThen_ok, List.map_toArray, List.map_cons, List.map_nil, hs, hx, hr]
  exact hK _ _ h

set_option maxRecDepth 100000 in
set_option maxHeartbeats 12800000 in
theorem back_walk (L : Bool) (ak : Option Addr) (ck : Nat) (K : List Int) (w : World) (hrk : ReadsInt w .u64 ak K.length K) (hlk : K.length * 8 ≤ 140737488351232) (hwk : ∀ x ∈ K, (Lit.int .u64 x).wf = true) (hck : K.length ≤ ck)
    (av : Option Addr) (cv : Nat) (V : List Int) (hrv : ReadsInt w .u64 av V.length V) (hlv : V.length * 8 ≤ 140737488351232) (hwv : ∀ x ∈ V, (Lit.int .u64 x).wf = true) (hcv : V.length ≤ cv)
    (no : Int) (wno : (Lit.int .u8 no).wf = true) (A : Option Addr) (c : Nat) (l : List Int) (hr : ReadsInt w .u8 A l.length l) (hl : l.length * 1 ≤ 140737488351232) (hw : ∀ x ∈ l, (Lit.int .u8 x).wf = true) (hc : l.length ≤ c) :
    Calls Tryd.prog 3 #[.agg #[.bool L, .slice ak K.length ck, .slice av V.length cv], .int .u8 no, .slice A l.length c] w fun e w' => e = .returned (.bool true) ∧ Below w.heap.size w w' := by
  obtain ⟨nk, hnk⟩ : ∃ n, n = K.length := ⟨_, rfl⟩
  obtain ⟨nv, hnv⟩ : ∃ n, n = V.length := ⟨_, rfl⟩
  obtain ⟨n, hn⟩ : ∃ n, n = l.length := ⟨_, rfl⟩
  rw [← hnk] at hrk ⊢
  rw [← hnv] at hrv ⊢
  rw [← hn] at hr hc hl ⊢
  obtain ⟨mo, rfl⟩ := Int.eq_ofNat_of_zero_le (le_of_wf8 wno).1
  have hmo : mo < 256 := by have := (le_of_wf8 wno).2; omega
  obtain ⟨er, L2, K2, V2, hT⟩ : ∃ er L K V, takeN l = ⟨er, L, K, V⟩ := ⟨_, _, _, _, rfl⟩
  obtain ⟨nk2, hnk2⟩ : ∃ m, K2.length = m := ⟨_, rfl⟩
  obtain ⟨nv2, hnv2⟩ : ∃ m, V2.length = m := ⟨_, rfl⟩
  have TT := Lib.hid hT
  have NK := Lib.hid hnk2
  have NV := Lib.hid hnv2
  have HL := Lib.hid hr
  have HW := Lib.hid hw
  have HC := Lib.hid hc
  have HNL := Lib.hid hl
  have HMO := Lib.hid hmo
  clear hck hcv hlk hlv hnk hnv hn hT hnk2 hnv2 hr hw hc hl wno hmo
  obtain ⟨w1, hw1, b1, f1, s1⟩ := made w #[.bool L, .slice ak nk ck, .slice av nv cv] 24
  have F1 := Lib.hid f1
  have B1 := Lib.hid b1
  have RK1 := Lib.hid (ReadsInt.below hrk b1)
  have RV1 := Lib.hid (ReadsInt.below hrv b1)
  have WK := Lib.hid hwk
  have WV := Lib.hid hwv
  clear b1 f1 s1 hwk hwv hrk hrv
  go_enter Tryd.func3, Tryd.ntmps3
  go_wp2_with ((with_reducible refine wpList_load_row rfl 24 (.tmp 3) rfl w.heap.size ?_ 24 _ _ _ F1.out Tryd.underlying24 ?_ (size3 _ _ _) ?_); rfl; rfl)
  by_cases hm : mayN K V = true
  · obtain ⟨N, hN⟩ : ∃ N, 2 + 16 * nk = N := ⟨_, rfl⟩
    obtain ⟨F, hF⟩ : ∃ F, formN L K V = F := ⟨_, rfl⟩
    have FL := Lib.hid (show F.length = N by rw [← hF, form_len, ← hN, RK1.out.1])
    have FW := Lib.hid (show ∀ x ∈ F, (Lit.int .u8 x).wf = true by rw [← hF]; exact form_wf L K V (may_le hm).2.1)
    have HN1 := Lib.hid (show N ≤ 130 by have := may_le hm; have := RK1.out.1; omega)
    have TF := Lib.hid (show takeN (F ++ List.replicate mo 0) = ⟨0, L, K, V⟩ by rw [← hF]; exact take_form L K V _ hm WK.out WV.out (by rw [List.all_eq_true]; intro x hx; rw [(List.mem_replicate.1 hx).2]; rfl))
    have KV := Lib.hid (show K.length = nk ∧ V.length = nv from ⟨RK1.out.1, RV1.out.1⟩)
    refine (put_at L _ RK1.out RV1.out hm hN hF).mono ?_; rintro e w2 ⟨A2, c2, rfl, ho, hb⟩
    obtain ⟨A3, c3, w3, hr3, ho3, hg3⟩ := app_zeros (m := mo) ho (by have := HN1.out; have := HMO.out; omega) hb.size
    have RX := Lib.hid hr3
    have b3 := pw_below_grown hb _ hb.size hg3 (fun k hk => own_base ho k hk)
    have X3 := Lib.hid (reads_own_of ho3 (by rw [List.length_append, List.length_replicate, FL.out]) rfl)
    have C3 := Lib.hid (own_cap ho3)
    have D3 := Lib.hid b3
    clear ho hb hr3 ho3 hg3 b3 hm hN hF
    go_wp2_with (at_builtin; refine wp_app2 rfl (.tmp 22) (.tmp 23) rfl rfl rfl RX.out ?_)
    refine (take_at (F ++ List.replicate mo 0) _ X3.out (fun x hx => by rcases List.mem_append.1 hx with h | h; exact FW.out x h; rw [(List.mem_replicate.1 h).2]; rfl) C3.out TF.out KV.out.1 KV.out.2).mono ?_; rintro e w4 ⟨A4, c4, A5, c5, rfl, ho1, ho2, -, hb⟩
    obtain ⟨w5, hw5, b5, f5, s5⟩ := made w4 #[.bool false, .slice none 0 0, .slice none 0 0] 24
    obtain ⟨w6, hw6⟩ : ∃ w6, w5.setRow w4.heap.size #[.bool L, .slice A4 nk c4, .slice A5 nv c5] = w6 := ⟨_, rfl⟩
    have F5 := Lib.hid f5
    have D6' : Below w3.heap.size w3 w6 := by rw [← hw6]; exact below_setRow (below_then hb hb.size b5) hb.size _
    have M6 : w6.heap[w4.heap.size]? = some (.cells #[.bool L, .slice A4 nk c4, .slice A5 nv c5] 24) := by rw [← hw6]; exact setRow_heap _ _ _ _ _ _ f5
    have D6 := Lib.hid (below_then D3.out D3.out.size D6')
    have BX6 := Lib.hid (keep_row F1.out D6.out)
    have P1 := Lib.hid (show ReadsInt w6 .u64 A4 nk K from reads_own_of (show w6.ownsRow w3.heap.size 37 1 (.slice A4 nk c4) nk (nums .u64 K) by rw [← hw6]; exact own_setRow (pw_own_below ho1 b5) (fun he => by have := own_lt ho1 _ he.symm; omega) _) KV.out.1 rfl)
    have P2 := Lib.hid (show ReadsInt w6 .u64 A5 nv V from reads_own_of (show w6.ownsRow w3.heap.size 37 1 (.slice A5 nv c5) nv (nums .u64 V) by rw [← hw6]; exact own_setRow (pw_own_below ho2 b5) (fun he => by have := own_lt ho2 _ he.symm; omega) _) KV.out.2 rfl)
    have c0 : w6.cell? ⟨w4.heap.size, 0, none⟩ = some (.bool L) := cell_row M6 rfl
    have c1 : w6.cell? ⟨w4.heap.size, 1, none⟩ = some (.slice A4 nk c4) := cell_row M6 rfl
    have c2' : w6.cell? ⟨w4.heap.size, 2, none⟩ = some (.slice A5 nv c5) := cell_row M6 rfl
    have d0 : w6.cell? ⟨w.heap.size, 0, none⟩ = some (.bool L) := cell_row BX6.out rfl
    have d1 : w6.cell? ⟨w.heap.size, 1, none⟩ = some (.slice ak nk ck) := cell_row BX6.out rfl
    have d2 : w6.cell? ⟨w.heap.size, 2, none⟩ = some (.slice av nv cv) := cell_row BX6.out rfl
    clear ho1 ho2 hb b5 f5 s5 D6' M6
    go_wp2_with ((with_reducible refine wpList_store_row rfl 24 (.tmp 9) (.tmp 26) rfl w4.heap.size #[.bool L, .slice A4 nk c4, .slice A5 nv c5] ?_ ?_ 24 _ F5.out (size3 _ _ _) ?_ (one3 _ _ _ _ _ _ _) ?_); rfl; rfl; rfl; rw [hw6])
    clear hw6 hw5
    refine (rsame_at _ (ReadsInt.below RK1.out D6.out) (ReadsInt.below RV1.out D6.out) P1.out P2.out (same_refl _ _ _)).mono ?_; rintro e w7 ⟨rfl, hb⟩
    have RB := Lib.hid (keep_row BX6.out hb)
    have BZ := Lib.hid (below_then (below_then B1.out B1.out.size D6.out) (below_then B1.out B1.out.size D6.out).size hb)
    clear hb c0 c1 c2' d0 d1 d2 hw1
    go_wp2_with fail
    refine (take_at l _ (ReadsInt.below HL.out BZ.out) HW.out HC.out TT.out NK.out NV.out).mono ?_; rintro e w8 ⟨A8, c8, A9, c9, rfl, ho1, ho2, -, hb⟩
    obtain ⟨w9, hw9⟩ : ∃ w9, w8.setRow w.heap.size #[.bool L2, .slice A8 nk2 c8, .slice A9 nv2 c9] = w9 := ⟨_, rfl⟩
    have RB8 := Lib.hid (keep_row RB.out hb)
    have hlt : w.heap.size < w7.heap.size := (Array.getElem?_eq_some_iff.1 RB.out).1
    have RB9 := Lib.hid (show w9.heap[w.heap.size]? = some (.cells #[.bool L2, .slice A8 nk2 c8, .slice A9 nv2 c9] 24 (0, 0)) by rw [← hw9]; exact setRow_heap _ _ _ _ _ _ RB8.out)
    have B9 := Lib.hid (show Below w.heap.size w w9 by rw [← hw9]; exact below_setRow (below_then BZ.out BZ.out.size hb) (Nat.le_refl _) _)
    have Q1 := Lib.hid (show ReadsInt w9 .u64 A8 nk2 K2 from reads_own_of (show w9.ownsRow w7.heap.size 37 1 (.slice A8 nk2 c8) nk2 (nums .u64 K2) by rw [← hw9]; exact own_setRow ho1 (own_ne ho1 hlt) _) NK.out rfl)
    have Q2 := Lib.hid (show ReadsInt w9 .u64 A9 nv2 V2 from reads_own_of (show w9.ownsRow w7.heap.size 37 1 (.slice A9 nv2 c9) nv2 (nums .u64 V2) by rw [← hw9]; exact own_setRow ho2 (own_ne ho2 hlt) _) NV.out rfl)
    clear ho1 ho2 hb hlt
    by_cases he0 : er = 0
    · have hee : (er != 0) = false := by simp [he0]
      obtain ⟨hm2, wk2, wv2, z, hz, hz0⟩ := take_back HW.out (by rw [TT.out, he0] : takeN l = ⟨0, L2, K2, V2⟩)
      obtain ⟨M, hM⟩ : ∃ M, 2 + 16 * nk2 = M := ⟨_, rfl⟩
      obtain ⟨G, hG⟩ : ∃ G, formN L2 K2 V2 = G := ⟨_, rfl⟩
      have HM2 := Lib.hid hm2
      have GW := Lib.hid (show ∀ x ∈ G, (Lit.int .u8 x).wf = true by rw [← hG]; exact form_wf L2 K2 V2 (may_le hm2).2.1)
      have GL := Lib.hid (show G.length = M by rw [← hG, form_len, ← hM, NK.out])
      have HM := Lib.hid hM
      have HG := Lib.hid hG
      rw [hG] at hz
      have HZ := Lib.hid hz
      have HZ0 := Lib.hid hz0
      have MN := Lib.hid (show M ≤ n by rw [← GL.out, ← HL.out.1, hz, List.length_append]; omega)
      clear he0 hm2 wk2 wv2 hz hz0 hM hG
      go_wp2_with (first | ((with_reducible refine wpList_store_row rfl 24 (.tmp 3) (.tmp 45) rfl w.heap.size #[.bool L2, .slice A8 nk2 c8, .slice A9 nv2 c9] ?_ ?_ 24 _ RB8.out (size3 _ _ _) ?_ (one3 _ _ _ _ _ _ _) ?_); rfl; rfl; rfl; rw [hw9]) | ((with_reducible refine wpList_load_row rfl 24 (.tmp 3) rfl w.heap.size ?_ 24 _ _ _ RB9.out Tryd.underlying24 ?_ (size3 _ _ _) ?_); rfl; rfl))
      refine (put_at L2 _ Q1.out Q2.out HM2.out HM.out HG.out).mono ?_; rintro e w10 ⟨A10, c10, rfl, ho, hb⟩
      have X10 := Lib.hid (reads_own_of ho GL.out rfl)
      have D10 := Lib.hid hb
      clear ho hb hw9
      go_wp2_with fail
      refine (awake_any _).mono ?_; rintro e w11 ⟨rfl, hb⟩
      have D11 := Lib.hid (below_then D10.out D10.out.size hb)
      have X11 := Lib.hid (ReadsInt.below X10.out hb)
      have rb11 := keep_row RB9.out D11.out
      have m0 : w11.cell? ⟨w.heap.size, 0, none⟩ = some (.bool L2) := cell_row rb11 rfl
      have m1 : w11.cell? ⟨w.heap.size, 1, none⟩ = some (.slice A8 nk2 c8) := cell_row rb11 rfl
      have m2 : w11.cell? ⟨w.heap.size, 2, none⟩ = some (.slice A9 nv2 c9) := cell_row rb11 rfl
      clear hb rb11
      go_wp2_with fail
      refine (may_at L2 _ (ReadsInt.below Q1.out D11.out) (ReadsInt.below Q2.out D11.out) HM2.out).mono ?_; rintro e w12 ⟨rfl, hb⟩
      have D12 := Lib.hid (below_then D11.out D11.out.size hb)
      have X12 := Lib.hid (ReadsInt.below X11.out hb)
      have B12 := Lib.hid (below_then B9.out B9.out.size D12.out)
      have L12 := Lib.hid (ReadsInt.below HL.out B12.out)
      clear hb m0 m1 m2
      go_wp2_with fail
      refine (prefix_yes l G z A A10 n c M c10 _ L12.out X12.out HZ.out HC.out GW.out).mono ?_; rintro e w13 ⟨rfl, rfl⟩
      obtain ⟨i0, hi0, hs0⟩ := info8'
      obtain ⟨A13, hA13, hr13⟩ := print_cut (P := Tryd.prog) 25 5 .i64 Tryd.underlying25 hi0 hs0 A n c M MN.out
      have RZ := Lib.hid (show ReadsInt w12 .u8 A13 (n - M) z by
        have h := hr13 _ _ _ HC.out L12.out
        rwa [HZ.out, List.drop_left' GL.out] at h)
      have HCM := Lib.hid (show n - M ≤ c - M by have := HC.out; omega)
      clear hr13 hi0 hs0 i0
      go_wp2_with fail
      refine (trim0 z A13 (n - M) (c - M) _ RZ.out HCM.out).mono ?_; rintro e w14 ⟨⟨A14, m14, c14, rfl, -, hq⟩, hb⟩
      obtain rfl : m14 = 0 := hq.2 HZ0.out
      have B14 := Lib.hid (below_then B12.out B12.out.size hb)
      clear hb hq
      go_wp2_with fail
      go_ret
      exact ⟨rfl, B14.out⟩
    · have hee : (er != 0) = true := by simp [he0]
      obtain ⟨q1, q2, q3⟩ := take_nt TT.out he0
      have hk0 : nk2 = 0 := by rw [← NK.out, q2]; rfl
      have hv0 : nv2 = 0 := by rw [← NV.out, q3]; rfl
      subst hk0; subst hv0; subst q1
      clear he0 q2 q3
      go_wp2_with ((with_reducible refine wpList_store_row rfl 24 (.tmp 3) (.tmp 45) rfl w.heap.size #[.bool false, .slice A8 0 c8, .slice A9 0 c9] ?_ ?_ 24 _ RB8.out (size3 _ _ _) ?_ (one3 _ _ _ _ _ _ _) ?_); rfl; rfl; rfl; rw [hw9])
      clear hw9
      refine (awake_any _).mono ?_; rintro e w11 ⟨rfl, hb⟩
      have rb11 := keep_row RB9.out hb
      have m0 : w11.cell? ⟨w.heap.size, 0, none⟩ = some (.bool false) := cell_row rb11 rfl
      have m1 : w11.cell? ⟨w.heap.size, 1, none⟩ = some (.slice A8 0 c8) := cell_row rb11 rfl
      have m2 : w11.cell? ⟨w.heap.size, 2, none⟩ = some (.slice A9 0 c9) := cell_row rb11 rfl
      have B11 := Lib.hid (below_then B9.out B9.out.size hb)
      clear hb rb11
      go_wp2_with fail
      go_ret
      exact ⟨rfl, B11.out⟩
  · have HM := Lib.hid (show mayN K V = false by simpa using hm)
    clear hm
    refine (put_no L K V ak av nk ck nv cv _ RK1.out RV1.out HM.out).mono ?_; rintro e w2 ⟨rfl, hb⟩
    have F2 := keep_row F1.out hb
    have d0 : w2.cell? ⟨w.heap.size, 0, none⟩ = some (.bool L) := cell_row F2 rfl
    have d1 : w2.cell? ⟨w.heap.size, 1, none⟩ = some (.slice ak nk ck) := cell_row F2 rfl
    have d2 : w2.cell? ⟨w.heap.size, 2, none⟩ = some (.slice av nv cv) := cell_row F2 rfl
    have BX2 := Lib.hid F2
    have D2 := Lib.hid hb
    clear hb F2
    go_wp2_with fail
    refine (may_at L _ (ReadsInt.below RK1.out D2.out) (ReadsInt.below RV1.out D2.out) HM.out).mono ?_; rintro e w7 ⟨rfl, hb⟩
    have RB := Lib.hid (keep_row BX2.out hb)
    have BZ := Lib.hid (below_then (below_then B1.out B1.out.size D2.out) (below_then B1.out B1.out.size D2.out).size hb)
    clear hb d0 d1 d2 hw1
    go_wp2_with fail
    refine (take_at l _ (ReadsInt.below HL.out BZ.out) HW.out HC.out TT.out NK.out NV.out).mono ?_; rintro e w8 ⟨A8, c8, A9, c9, rfl, ho1, ho2, -, hb⟩
    obtain ⟨w9, hw9⟩ : ∃ w9, w8.setRow w.heap.size #[.bool L2, .slice A8 nk2 c8, .slice A9 nv2 c9] = w9 := ⟨_, rfl⟩
    have RB8 := Lib.hid (keep_row RB.out hb)
    have hlt : w.heap.size < w7.heap.size := (Array.getElem?_eq_some_iff.1 RB.out).1
    have RB9 := Lib.hid (show w9.heap[w.heap.size]? = some (.cells #[.bool L2, .slice A8 nk2 c8, .slice A9 nv2 c9] 24 (0, 0)) by rw [← hw9]; exact setRow_heap _ _ _ _ _ _ RB8.out)
    have B9 := Lib.hid (show Below w.heap.size w w9 by rw [← hw9]; exact below_setRow (below_then BZ.out BZ.out.size hb) (Nat.le_refl _) _)
    have Q1 := Lib.hid (show ReadsInt w9 .u64 A8 nk2 K2 from reads_own_of (show w9.ownsRow w7.heap.size 37 1 (.slice A8 nk2 c8) nk2 (nums .u64 K2) by rw [← hw9]; exact own_setRow ho1 (own_ne ho1 hlt) _) NK.out rfl)
    have Q2 := Lib.hid (show ReadsInt w9 .u64 A9 nv2 V2 from reads_own_of (show w9.ownsRow w7.heap.size 37 1 (.slice A9 nv2 c9) nv2 (nums .u64 V2) by rw [← hw9]; exact own_setRow ho2 (own_ne ho2 hlt) _) NV.out rfl)
    clear ho1 ho2 hb hlt
    by_cases he0 : er = 0
    · have hee : (er != 0) = false := by simp [he0]
      obtain ⟨hm2, wk2, wv2, z, hz, hz0⟩ := take_back HW.out (by rw [TT.out, he0] : takeN l = ⟨0, L2, K2, V2⟩)
      obtain ⟨M, hM⟩ : ∃ M, 2 + 16 * nk2 = M := ⟨_, rfl⟩
      obtain ⟨G, hG⟩ : ∃ G, formN L2 K2 V2 = G := ⟨_, rfl⟩
      have HM2 := Lib.hid hm2
      have GW := Lib.hid (show ∀ x ∈ G, (Lit.int .u8 x).wf = true by rw [← hG]; exact form_wf L2 K2 V2 (may_le hm2).2.1)
      have GL := Lib.hid (show G.length = M by rw [← hG, form_len, ← hM, NK.out])
      have HM := Lib.hid hM
      have HG := Lib.hid hG
      rw [hG] at hz
      have HZ := Lib.hid hz
      have HZ0 := Lib.hid hz0
      have MN := Lib.hid (show M ≤ n by rw [← GL.out, ← HL.out.1, hz, List.length_append]; omega)
      clear he0 hm2 wk2 wv2 hz hz0 hM hG
      go_wp2_with (first | ((with_reducible refine wpList_store_row rfl 24 (.tmp 3) (.tmp 45) rfl w.heap.size #[.bool L2, .slice A8 nk2 c8, .slice A9 nv2 c9] ?_ ?_ 24 _ RB8.out (size3 _ _ _) ?_ (one3 _ _ _ _ _ _ _) ?_); rfl; rfl; rfl; rw [hw9]) | ((with_reducible refine wpList_load_row rfl 24 (.tmp 3) rfl w.heap.size ?_ 24 _ _ _ RB9.out Tryd.underlying24 ?_ (size3 _ _ _) ?_); rfl; rfl))
      refine (put_at L2 _ Q1.out Q2.out HM2.out HM.out HG.out).mono ?_; rintro e w10 ⟨A10, c10, rfl, ho, hb⟩
      have X10 := Lib.hid (reads_own_of ho GL.out rfl)
      have D10 := Lib.hid hb
      clear ho hb hw9
      go_wp2_with fail
      refine (awake_any _).mono ?_; rintro e w11 ⟨rfl, hb⟩
      have D11 := Lib.hid (below_then D10.out D10.out.size hb)
      have X11 := Lib.hid (ReadsInt.below X10.out hb)
      have rb11 := keep_row RB9.out D11.out
      have m0 : w11.cell? ⟨w.heap.size, 0, none⟩ = some (.bool L2) := cell_row rb11 rfl
      have m1 : w11.cell? ⟨w.heap.size, 1, none⟩ = some (.slice A8 nk2 c8) := cell_row rb11 rfl
      have m2 : w11.cell? ⟨w.heap.size, 2, none⟩ = some (.slice A9 nv2 c9) := cell_row rb11 rfl
      clear hb rb11
      go_wp2_with fail
      refine (may_at L2 _ (ReadsInt.below Q1.out D11.out) (ReadsInt.below Q2.out D11.out) HM2.out).mono ?_; rintro e w12 ⟨rfl, hb⟩
      have D12 := Lib.hid (below_then D11.out D11.out.size hb)
      have X12 := Lib.hid (ReadsInt.below X11.out hb)
      have B12 := Lib.hid (below_then B9.out B9.out.size D12.out)
      have L12 := Lib.hid (ReadsInt.below HL.out B12.out)
      clear hb m0 m1 m2
      go_wp2_with fail
      refine (prefix_yes l G z A A10 n c M c10 _ L12.out X12.out HZ.out HC.out GW.out).mono ?_; rintro e w13 ⟨rfl, rfl⟩
      obtain ⟨i0, hi0, hs0⟩ := info8'
      obtain ⟨A13, hA13, hr13⟩ := print_cut (P := Tryd.prog) 25 5 .i64 Tryd.underlying25 hi0 hs0 A n c M MN.out
      have RZ := Lib.hid (show ReadsInt w12 .u8 A13 (n - M) z by
        have h := hr13 _ _ _ HC.out L12.out
        rwa [HZ.out, List.drop_left' GL.out] at h)
      have HCM := Lib.hid (show n - M ≤ c - M by have := HC.out; omega)
      clear hr13 hi0 hs0 i0
      go_wp2_with fail
      refine (trim0 z A13 (n - M) (c - M) _ RZ.out HCM.out).mono ?_; rintro e w14 ⟨⟨A14, m14, c14, rfl, -, hq⟩, hb⟩
      obtain rfl : m14 = 0 := hq.2 HZ0.out
      have B14 := Lib.hid (below_then B12.out B12.out.size hb)
      clear hb hq
      go_wp2_with fail
      go_ret
      exact ⟨rfl, B14.out⟩
    · have hee : (er != 0) = true := by simp [he0]
      obtain ⟨q1, q2, q3⟩ := take_nt TT.out he0
      have hk0 : nk2 = 0 := by rw [← NK.out, q2]; rfl
      have hv0 : nv2 = 0 := by rw [← NV.out, q3]; rfl
      subst hk0; subst hv0; subst q1
      clear he0 q2 q3
      go_wp2_with ((with_reducible refine wpList_store_row rfl 24 (.tmp 3) (.tmp 45) rfl w.heap.size #[.bool false, .slice A8 0 c8, .slice A9 0 c9] ?_ ?_ 24 _ RB8.out (size3 _ _ _) ?_ (one3 _ _ _ _ _ _ _) ?_); rfl; rfl; rfl; rw [hw9])
      clear hw9
      refine (awake_any _).mono ?_; rintro e w11 ⟨rfl, hb⟩
      have rb11 := keep_row RB9.out hb
      have m0 : w11.cell? ⟨w.heap.size, 0, none⟩ = some (.bool false) := cell_row rb11 rfl
      have m1 : w11.cell? ⟨w.heap.size, 1, none⟩ = some (.slice A8 0 c8) := cell_row rb11 rfl
      have m2 : w11.cell? ⟨w.heap.size, 2, none⟩ = some (.slice A9 0 c9) := cell_row rb11 rfl
      have B11 := Lib.hid (below_then B9.out B9.out.size hb)
      clear hb rb11
      go_wp2_with fail
      go_ret
      exact ⟨rfl, B11.out⟩
end Go.Proofs.YtdekplalhfpooaaDoor.Nod
