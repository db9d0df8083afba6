/- Knots: what is put where Find says leaves keys rising, is found there, and taken out again leaves the node: the walk. -/
import Derived.BigQuiet
import Derived.Test.YtdekplalhfpooaaKntL
import Derived.Test.YtdekplalhfpooaaKnuB
set_option linter.unusedVariables false
set_option linter.unusedSimpArgs false
namespace Go.Proofs.Ytdekplalhfpooaa.Knt
open Go Go.RowKit Go.Proofs.YtdekplalhfpooaaW.PrintWords Go.Proofs.YtdekplalhfpooaaW.PrintLast Go.Proofs.YtdekplalhfpooaaW.PrintMore Base Odr Hlp Nod

set_option maxRecDepth 100000 in
set_option maxHeartbeats 6400000 in
theorem keeps_walk (A0 : Option Addr) (c0 : Nat) (l0 : List Int) (w : World) (hr0 : ReadsInt w .u64 A0 l0.length l0) (hl0 : l0.length * 8 ≤ 140737488351232) (hw0 : ∀ x ∈ l0, (Lit.int .u64 x).wf = true) (hc0 : l0.length ≤ c0) (key : Int) (wk : (Lit.int .u64 key).wf = true) :
    Calls Try.prog 12 #[.slice A0 l0.length c0, .int .u64 key] w fun e w' => e = .returned (.bool true) ∧ Below w.heap.size w w' := by
  clear hw0 hc0 wk
  obtain ⟨n0, hn0⟩ : ∃ n, l0.length = n := ⟨_, rfl⟩
  rw [hn0] at hr0 hl0 ⊢
  have HL := Lib.hid hl0
  have R0 := Lib.hid hr0
  clear hr0 hl0 hn0
  go_enter Try.func12, Try.ntmps12
  go_wp2_with fail
  refine (rising_at l0 A0 n0 c0 _ R0.out (by have := HL.out; omega)).mono ?_; rintro e w1 ⟨q, Ks, hq, hup, a1, k1, b1, v1, rfl, ho, hb⟩
  have HQ := Lib.hid hq
  have HU := Lib.hid hup
  have O1 := Lib.hid ho
  have B1 := Lib.hid hb
  have K1 := Lib.hid (((Keeps.nil (W := w1)).addRd (mine_reads ho.k)).addRd (mine_reads ho.v))
  have T1 := Lib.hid (And.intro ho.k.1 ho.v.1)
  clear hup ho hb R0 HL
  obtain ⟨ya, hya⟩ : ∃ x, w1.alloc (.cells #[.bool false, .slice none 0 0, .slice none 0 0] 24) = x := ⟨_, rfl⟩
  obtain ⟨w2, hyb⟩ : ∃ x, ya.setRow w1.heap.size #[.bool false, .slice a1 q k1, .slice b1 q v1] = x := ⟨_, rfl⟩
  have X2 := Lib.hid (one_row hya hyb)
  have K2 := Lib.hid ((K1.out.below X2.out.1).addRow X2.out.2.2)
  have B2 := Lib.hid (below_then' B1.out X2.out.1)
  obtain ⟨i, hi⟩ : ∃ i, pos Ks q (below key) = i := ⟨_, rfl⟩
  obtain ⟨r, hr⟩ : ∃ r, decide (i < q ∧ Ks.getD i 0 = key) = r := ⟨_, rfl⟩
  obtain ⟨c, hc⟩ : ∃ c, pos Ks q (atmost key) - 1 = c := ⟨_, rfl⟩
  have hiq : i ≤ q := by rw [← hi]; exact pos_le _ _ _
  have HI := Lib.hid (And.intro hi (And.intro hr hc))
  have HIQ := Lib.hid hiq
  clear hi hr hc
  go_wp2_with (first | ((with_reducible refine wpList_store_row rfl 24 (.tmp 5) (.tmp 17) rfl w1.heap.size #[.bool false, .slice a1 q k1, .slice b1 q v1] ?_ ?_ 24 _ X2.out.2.1 (size3 _ _ _) ?_ (one3 _ _ _ _ _ _ _) ?_); rfl; rfl; rfl; rw [hyb]) | ((with_reducible refine wpList_load_row rfl 24 (.tmp 5) rfl w1.heap.size ?_ 24 _ _ _ (K2.out.row 0 rfl) Try.underlying24 ?_ (size3 _ _ _) ?_); rfl; rfl))
  clear hya hyb X2 K1 B1
  refine (find_at false Ks (places q) a1 b1 q k1 q v1 key _ (K2.out.rd 1 rfl) (K2.out.rd 0 rfl) (Nat.min_self _) HI.out.1 HI.out.2.1).mono ?_; rintro e w3 ⟨rfl, hb⟩
  have K3 := Lib.hid (K2.out.below hb)
  have B3 := Lib.hid (below_then' B2.out hb)
  clear hb K2 B2
  go_wp2_with fail
  refine (awake_any _).mono ?_; rintro e w4 ⟨rfl, hb⟩
  have K4 := Lib.hid (K3.out.below hb)
  have B4 := Lib.hid (below_then' B3.out hb)
  clear hb K3 B3
  have x1 : w4.cell? ⟨w1.heap.size, 1, none⟩ = some (.slice a1 q k1) := cell_row (K4.out.row 0 rfl) rfl
  have t1 : decide ((q : Int) < (i : Int)) = false := decide_eq_false (by omega)
  have t1n : decide (q < i) = false := decide_eq_false (by omega)
  have t0 : decide ((i : Int) < 0) = false := decide_eq_false (by omega)
  have hq9 : q ≤ 200 := hq
  clear hq hiq
  go_wp2_with fail
  clear t1 t1n t0 x1
  go_loop [40] (fun iv => ∃ k : Nat, k ≤ q ∧ iv = .int .i64 (k : Int)) (fun iv => q - (intOf iv).toNat)
  case atStart => exact ⟨0, by omega, rfl⟩
  case round =>
    obtain ⟨k, hk, rfl⟩ := hrel
    have x1 : w4.cell? ⟨w1.heap.size, 1, none⟩ = some (.slice a1 q k1) := cell_row (K4.out.row 0 rfl) rfl
    by_cases hlt : k < q
    · have dk : decide ((k : Int) < (q : Int)) = true := decide_eq_true (by omega)
      have dkn : decide (k < q) = true := decide_eq_true (by omega)
      have hlo : k < i → Ks.getD k 0 < key := fun h => at_lt HI.out.1 h
      have hhi : i ≤ k → key ≤ Ks.getD k 0 := fun h => at_ge HU.out T1.out.1 HI.out.1 h hlt
      have hrr : r = decide (i < q ∧ Ks.getD i 0 = key) := HI.out.2.1.symm
      have hiq := HIQ.out
      obtain ⟨ad, rfl, hcell⟩ := cell_at (K4.out.rd 1 rfl) k hlt
      have HC := Lib.hid (fun (h : i < q) => cell_at (K4.out.rd 1 rfl) i h)
      obtain ⟨x, hx⟩ : ∃ x, Ks.getD k 0 = x := ⟨_, rfl⟩
      rw [hx] at hcell hlo hhi
      have k0 : (0 : Int) ≤ (k : Int) := by omega
      have k1' : (k : Int) < (q : Int) := by omega
      have HK := Lib.hid (show k + 1 ≤ q from hlt)
      by_cases hik : k < i
      · skip
        have a1' : decide ((k : Int) < (i : Int)) = true := decide_eq_true (by omega)
        have a1n : decide (k < i) = true := decide_eq_true (by omega)
        have a2 : decide (x < key) = true := decide_eq_true (hlo hik)
        by_cases hii : i < q
        · obtain ⟨ad', had, hc2⟩ := HC.out hii
          injection had with had
          subst had
          have b1' : decide ((i : Int) < (q : Int)) = true := decide_eq_true (by omega)
          have b1n : decide (i < q) = true := decide_eq_true hii
          obtain ⟨y, hy⟩ : ∃ y, Ks.getD i 0 = y := ⟨_, rfl⟩
          rw [hy] at hc2 hrr
          have i0 : (0 : Int) ≤ (i : Int) := by omega
          have i1 : (i : Int) < (q : Int) := by omega
          by_cases hyk : y = key
          · have b2 : (y == key) = true := by simpa using hyk
            obtain rfl : r = true := by rw [hrr]; exact decide_eq_true ⟨hii, hyk⟩
            clear hrr hyk hii hik hlo hhi hlt hk hiq hx hy HC
            go_wp2_with fail
            go_round
            case rel => exact ⟨k + 1, HK.out, by go_num⟩
            case measure => simp [intOf]; have := HK.out; omega
          · have b2 : (y == key) = false := by simpa using hyk
            obtain rfl : r = false := by rw [hrr]; exact decide_eq_false (fun h => hyk h.2)
            clear hrr hyk hii hik hlo hhi hlt hk hiq hx hy HC
            go_wp2_with fail
            go_round
            case rel => exact ⟨k + 1, HK.out, by go_num⟩
            case measure => simp [intOf]; have := HK.out; omega
        · obtain rfl : i = q := by omega
          have b1' : decide ((i : Int) < (i : Int)) = false := by simp
          obtain rfl : r = false := by rw [hrr]; exact decide_eq_false (fun h => absurd h.1 (Nat.lt_irrefl _))
          clear hrr hii hik hlo hhi hlt hk hiq hx HC
          go_wp2_with fail
          go_round
          case rel => exact ⟨k + 1, HK.out, by go_num⟩
          case measure => simp [intOf]; have := HK.out; omega
      · skip
        have a1' : decide ((k : Int) < (i : Int)) = false := decide_eq_false (by omega)
        have a1n : decide (k < i) = false := decide_eq_false (by omega)
        have a2 : decide (x < key) = false := decide_eq_false (by have := hhi (by omega); omega)
        by_cases hii : i < q
        · obtain ⟨ad', had, hc2⟩ := HC.out hii
          injection had with had
          subst had
          have b1' : decide ((i : Int) < (q : Int)) = true := decide_eq_true (by omega)
          have b1n : decide (i < q) = true := decide_eq_true hii
          obtain ⟨y, hy⟩ : ∃ y, Ks.getD i 0 = y := ⟨_, rfl⟩
          rw [hy] at hc2 hrr
          have i0 : (0 : Int) ≤ (i : Int) := by omega
          have i1 : (i : Int) < (q : Int) := by omega
          by_cases hyk : y = key
          · have b2 : (y == key) = true := by simpa using hyk
            obtain rfl : r = true := by rw [hrr]; exact decide_eq_true ⟨hii, hyk⟩
            clear hrr hyk hii hik hlo hhi hlt hk hiq hx hy HC
            go_wp2_with fail
            go_round
            case rel => exact ⟨k + 1, HK.out, by go_num⟩
            case measure => simp [intOf]; have := HK.out; omega
          · have b2 : (y == key) = false := by simpa using hyk
            obtain rfl : r = false := by rw [hrr]; exact decide_eq_false (fun h => hyk h.2)
            clear hrr hyk hii hik hlo hhi hlt hk hiq hx hy HC
            go_wp2_with fail
            go_round
            case rel => exact ⟨k + 1, HK.out, by go_num⟩
            case measure => simp [intOf]; have := HK.out; omega
        · omega
    · obtain rfl : q = k := by omega
      have dk : decide ((q : Int) < (q : Int)) = false := by simp
      clear hk hlt
      go_wp2_with (first | ((with_reducible refine wpList_load_row rfl 24 (.tmp 5) rfl w1.heap.size ?_ 24 _ _ _ (K4.out.row 0 rfl) Try.underlying24 ?_ (size3 _ _ _) ?_); rfl; rfl))
      clear x1
      refine (child_at false Ks (places q) a1 b1 q k1 q v1 key _ (K4.out.rd 1 rfl) (K4.out.rd 0 rfl) (Nat.min_self _) HI.out.2.2).mono ?_; rintro e w5 ⟨rfl, hb⟩
      have K5 := Lib.hid (K4.out.below hb)
      have B5 := Lib.hid (below_then' B4.out hb)
      clear hb K4 B4
      go_upto_region 12 with fail
      go_cut [119] (fun v wx => v = .bool false ∧ wx = w5)
      case first =>
        have x1 : w5.cell? ⟨w1.heap.size, 1, none⟩ = some (.slice a1 q k1) := cell_row (K5.out.row 0 rfl) rfl
        by_cases hq0 : 0 < q
        · obtain ⟨f1, f2, f3⟩ := child_fit HU.out T1.out.1 HI.out.2.2 hq0
          have d0 : decide ((0 : Int) < (q : Int)) = true := decide_eq_true (by omega)
          have d0n : decide (0 < q) = true := decide_eq_true hq0
          have dc1 : decide ((c : Int) < 0) = false := decide_eq_false (by omega)
          have dc2 : decide ((q : Int) ≤ (c : Int)) = false := decide_eq_false (by omega)
          have dc2n : decide (q ≤ c) = false := decide_eq_false (by omega)
          have c0 : (0 : Int) ≤ (c : Int) := by omega
          have c1 : (c : Int) < (q : Int) := by omega
          obtain ⟨ad, rfl, hcell⟩ := cell_at (K5.out.rd 1 rfl) c f1
          have HC := Lib.hid (fun (h : c + 1 < q) => cell_at (K5.out.rd 1 rfl) (c + 1) h)
          obtain ⟨x, hx⟩ : ∃ x, Ks.getD c 0 = x := ⟨_, rfl⟩
          rw [hx] at hcell f2
          by_cases hk : key < x
          · skip
            have hc0 := f2 hk
            have e1 : decide (key < x) = true := decide_eq_true hk
            have e2 : decide ((0 : Int) < (c : Int)) = false := decide_eq_false (by omega)
            have e2n : decide (0 < c) = false := decide_eq_false (by omega)
            by_cases hn : c + 1 < q
            · obtain ⟨ad', had, hc2⟩ := HC.out hn
              injection had with had
              subst had
              obtain ⟨z, hz⟩ : ∃ z, Ks.getD (c + 1) 0 = z := ⟨_, rfl⟩
              have f4 := f3 hn
              rw [hz] at hc2 f4
              have hc3 : w5.cell? ⟨ad.block, ad.off + (c + 1), none⟩ = some (.int .u64 z) := by simpa [Addr.add] using hc2
              have g1 : decide ((c : Int) + 1 < (q : Int)) = true := decide_eq_true (by omega)
              have g1n : decide (c + 1 < q) = true := decide_eq_true hn
              have g2 : decide (z ≤ key) = false := decide_eq_false (by omega)
              have c2 : (0 : Int) ≤ (c : Int) + 1 := by omega
              have c3 : (c : Int) + 1 < (q : Int) := by omega
              have c4 : ((c : Int) + 1).toNat = c + 1 := by omega
              clear f1 f2 f3 f4 hz hx hk hn HC hq0 hc0
              go_wp2_with fail
              go_meet
              exact ⟨rfl, rfl⟩
            · have g1 : decide ((c : Int) + 1 < (q : Int)) = false := decide_eq_false (by omega)
              have g1n : decide (c + 1 < q) = false := decide_eq_false hn
              clear f1 f2 f3 hx hk hn HC hq0 hc0
              go_wp2_with fail
              go_meet
              exact ⟨rfl, rfl⟩
          · skip
            have e1 : decide (key < x) = false := decide_eq_false hk
            by_cases hn : c + 1 < q
            · obtain ⟨ad', had, hc2⟩ := HC.out hn
              injection had with had
              subst had
              obtain ⟨z, hz⟩ : ∃ z, Ks.getD (c + 1) 0 = z := ⟨_, rfl⟩
              have f4 := f3 hn
              rw [hz] at hc2 f4
              have hc3 : w5.cell? ⟨ad.block, ad.off + (c + 1), none⟩ = some (.int .u64 z) := by simpa [Addr.add] using hc2
              have g1 : decide ((c : Int) + 1 < (q : Int)) = true := decide_eq_true (by omega)
              have g1n : decide (c + 1 < q) = true := decide_eq_true hn
              have g2 : decide (z ≤ key) = false := decide_eq_false (by omega)
              have c2 : (0 : Int) ≤ (c : Int) + 1 := by omega
              have c3 : (c : Int) + 1 < (q : Int) := by omega
              have c4 : ((c : Int) + 1).toNat = c + 1 := by omega
              clear f1 f2 f3 f4 hz hx hk hn HC hq0
              go_wp2_with fail
              go_meet
              exact ⟨rfl, rfl⟩
            · have g1 : decide ((c : Int) + 1 < (q : Int)) = false := decide_eq_false (by omega)
              have g1n : decide (c + 1 < q) = false := decide_eq_false hn
              clear f1 f2 f3 hx hk hn HC hq0
              go_wp2_with fail
              go_meet
              exact ⟨rfl, rfl⟩
        · obtain rfl : q = 0 := by omega
          clear hq0
          go_wp2_with fail
          go_meet
          exact ⟨rfl, rfl⟩
      case rest =>
        obtain ⟨rfl, rfl⟩ := hcut
        cases r with
        | true =>
          have ha := of_decide_eq_true HI.out.2.1
          have HX := Lib.hid (And.intro (set_back (K := Ks) (x := key) (y := key) (i := i) (by rw [T1.out.1]; exact ha.1) ha.2) (set_back (K := places q) (x := 7) (i := i) (by rw [T1.out.2]; exact ha.1) rfl))
          obtain ⟨z, hz⟩ : ∃ z, (places q).getD i 0 = z := ⟨_, rfl⟩
          rw [hz] at HX
          obtain ⟨XS, hxs⟩ : ∃ x, setL Ks (i : Int) key = x := ⟨_, rfl⟩
          obtain ⟨YS, hys⟩ : ∃ x, setL (places q) (i : Int) 7 = x := ⟨_, rfl⟩
          have lxs : XS.length = q := by rw [← hxs, setL_len, T1.out.1]
          have lys : YS.length = q := by rw [← hys, setL_len, T1.out.2]
          have y7 : YS.getD i 0 = 7 := by rw [← hys]; exact set_get (by rw [T1.out.2]; exact ha.1)
          have tk : Ks.take q = Ks := List.take_of_length_le (Nat.le_of_eq T1.out.1)
          have tv : (places q).take q = places q := List.take_of_length_le (Nat.le_of_eq T1.out.2)
          have tx : XS.take q = XS := List.take_of_length_le (Nat.le_of_eq lxs)
          have ty : YS.take q = YS := List.take_of_length_le (Nat.le_of_eq lys)
          rw [hxs, hys] at HX
          have HS := Lib.hid (And.intro (show setL (Ks.take q) (i : Int) key = XS by rw [tk]; exact hxs) (And.intro (show setL ((places q).take q) (i : Int) 7 = YS by rw [tv]; exact hys) (And.intro (show setL (XS.take q) (i : Int) key = Ks by rw [tx]; exact HX.out.1) (show setL (YS.take q) (i : Int) z = places q by rw [ty]; exact HX.out.2))))
          have HY := Lib.hid (And.intro y7 (And.intro hz ha.1))
          have HB := Lib.hid (show q * 8 ≤ 140737488355328 by omega)
          clear hxs hys lxs lys y7 tk tv tx ty ha hz HX
          go_wp2_with (first | ((with_reducible refine wpList_load_row rfl 24 (.tmp 5) rfl w1.heap.size ?_ 24 _ _ _ (K5.out.row 0 rfl) Try.underlying24 ?_ (size3 _ _ _) ?_); rfl; rfl))
          refine (set_at false Ks (places q) XS YS a1 b1 q k1 q v1 q (i : Int) key 7 _ (K5.out.rd 1 rfl) (K5.out.rd 0 rfl) (Nat.min_self _) HS.out.1 HS.out.2.1 ⟨O1.out.lk, O1.out.lv⟩ ⟨fun h => (O1.out.nk h).2, fun h => (O1.out.nv h).2⟩ HB.out).mono ?_; rintro e w6 ⟨A6, c6, B6, d6, rfl, o1, hb⟩
          have K6 := Lib.hid (((K5.out.below hb).addRd (mine_reads o1.k)).addRd (mine_reads o1.v))
          have BB6 := Lib.hid (below_then' B5.out hb)
          have C6 := Lib.hid (And.intro (And.intro o1.lk o1.lv) (And.intro (fun h => (o1.nk h).2) (fun h => (o1.nv h).2)))
          clear hb o1 K5 B5
          obtain ⟨yc, hyc⟩ : ∃ x, w6.alloc (.cells #[.bool false, .slice none 0 0, .slice none 0 0] 24) = x := ⟨_, rfl⟩
          obtain ⟨w7, hyd⟩ : ∃ x, yc.setRow w6.heap.size #[.bool false, .slice A6 q c6, .slice B6 q d6] = x := ⟨_, rfl⟩
          have X7 := Lib.hid (one_row hyc hyd)
          have K7 := Lib.hid ((K6.out.below X7.out.1).addRow X7.out.2.2)
          have B7 := Lib.hid (below_then' BB6.out X7.out.1)
          go_wp2_with ((with_reducible refine wpList_store_row rfl 24 (.tmp 11) (.tmp 124) rfl w6.heap.size #[.bool false, .slice A6 q c6, .slice B6 q d6] ?_ ?_ 24 _ X7.out.2.1 (size3 _ _ _) ?_ (one3 _ _ _ _ _ _ _) ?_); rfl; rfl; rfl; rw [hyd])
          clear hyc hyd X7 K6 BB6
          have i0 : (0 : Int) ≤ (i : Int) := by omega
          have i1 : (i : Int) < (q : Int) := by have := HY.out.2.2; omega
          obtain ⟨ad, rfl, hc7⟩ := cell_at (K7.out.rd 0 rfl) i HY.out.2.2
          obtain ⟨ae, rfl, hcz⟩ := cell_at (K7.out.rd 2 rfl) i HY.out.2.2
          rw [HY.out.1] at hc7
          rw [HY.out.2.1] at hcz
          have C7 := Lib.hid (And.intro hc7 hcz)
          clear hc7 hcz
          have K7d := Lib.hid K7.out.drew
          refine start_ (n := 29) (S := fun w' => w'.cell? ⟨w6.heap.size, 0, none⟩ = some (.bool false) ∧ w'.cell? ⟨w6.heap.size, 1, none⟩ = some (.slice A6 q c6) ∧ w'.cell? ⟨w6.heap.size, 2, none⟩ = some (.slice (some ad) q d6) ∧ w'.cell? ⟨w1.heap.size, 0, none⟩ = some (.bool false) ∧ w'.cell? ⟨w1.heap.size, 1, none⟩ = some (.slice a1 q k1) ∧ w'.cell? ⟨w1.heap.size, 2, none⟩ = some (.slice (some ae) q v1) ∧ w'.cell? (ad.add i) = some (.int .u64 7) ∧ w'.cell? (ae.add i) = some (.int .u64 z)) (ds := []) #[false, false, false, false, false, false, false, false, false, false, false, false, false, false, false, false, false, false, false, false, false, false, false, false, false, false, false, false, false] (by kernel_rfl) rfl rfl ⟨cell_row (K7.out.row 0 rfl) rfl, cell_row (K7.out.row 0 rfl) rfl, cell_row (K7.out.row 0 rfl) rfl, cell_row (K7.out.row 1 rfl) rfl, cell_row (K7.out.row 1 rfl) rfl, cell_row (K7.out.row 1 rfl) rfl, C7.out.1, C7.out.2⟩ (fun hHeld => ?_)
          refine pure_ (i := 0) (N := some 125) (v := ?_) (a' := ?_) #[true, false, false, false, false, false, false, false, false, false, false, false, false, false, false, false, false, false, false, false, false, false, false, false, false, false, false, false, false] rfl rfl (by kernel_rfl) (fun _ _ _ h => h) (Or.inl ⟨by rfl, ?_⟩) ?_ ?_
          rotate_left
          · intro w'
            go_simp
            with_reducible rfl
          rotate_left
          · simp only [Act.put, List.setIfInBounds_toArray, List.set_cons_zero, List.set_cons_succ, i64_w, i32_w]
            rfl
          refine pure_ (i := 2) (N := some 127) (v := ?_) (a' := ?_) #[true, false, true, false, false, false, false, false, false, false, false, false, false, false, false, false, false, false, false, false, false, false, false, false, false, false, false, false, false] rfl rfl (by kernel_rfl) (fun _ _ _ h => h) (Or.inl ⟨by rfl, ?_⟩) ?_ ?_
          rotate_left
          · intro w'
            go_simp
            with_reducible rfl
          rotate_left
          · simp only [Act.put, List.setIfInBounds_toArray, List.set_cons_zero, List.set_cons_succ, i64_w, i32_w]
            rfl
          refine take_ (i := 1) (N := some 126) (v := ?_) (a' := ?_) #[true, true, true, false, false, false, false, false, false, false, false, false, false, false, false, false, false, false, false, false, false, false, false, false, false, false, false, false, false] rfl rfl (by kernel_rfl) (fun _ _ _ h => h) (Or.inl ⟨by rfl, ?_⟩) hHeld ?_ ?_
          rotate_left
          · rintro w' ⟨s0, s1, s2, s3, s4, s5, s6, s7⟩
            go_simp
            with_reducible rfl
          rotate_left
          · simp only [Act.put, List.setIfInBounds_toArray, List.set_cons_zero, List.set_cons_succ, i64_w, i32_w]
            rfl
          refine pure_ (i := 3) (N := some 128) (v := ?_) (a' := ?_) #[true, true, true, true, false, false, false, false, false, false, false, false, false, false, false, false, false, false, false, false, false, false, false, false, false, false, false, false, false] rfl rfl (by kernel_rfl) (fun _ _ _ h => h) (Or.inl ⟨by rfl, ?_⟩) ?_ ?_
          rotate_left
          · intro w'
            go_simp
            with_reducible rfl
          rotate_left
          · simp only [Act.put, List.setIfInBounds_toArray, List.set_cons_zero, List.set_cons_succ, i64_w, i32_w]
            rfl
          refine take_ (i := 4) (N := some 129) (v := ?_) (a' := ?_) #[true, true, true, true, true, false, false, false, false, false, false, false, false, false, false, false, false, false, false, false, false, false, false, false, false, false, false, false, false] rfl rfl (by kernel_rfl) (fun _ _ _ h => h) (Or.inl ⟨by rfl, ?_⟩) hHeld ?_ ?_
          rotate_left
          · rintro w' ⟨s0, s1, s2, s3, s4, s5, s6, s7⟩
            go_simp
            with_reducible rfl
          rotate_left
          · simp only [Act.put, List.setIfInBounds_toArray, List.set_cons_zero, List.set_cons_succ, i64_w, i32_w]
            rfl
          refine pure_ (i := 5) (N := some 130) (v := ?_) (a' := ?_) #[true, true, true, true, true, true, false, false, false, false, false, false, false, false, false, false, false, false, false, false, false, false, false, false, false, false, false, false, false] rfl rfl (by kernel_rfl) (fun _ _ _ h => h) (Or.inl ⟨by rfl, ?_⟩) ?_ ?_
          rotate_left
          · intro w'
            go_simp
            with_reducible rfl
          rotate_left
          · simp only [Act.put, List.setIfInBounds_toArray, List.set_cons_zero, List.set_cons_succ, i64_w, i32_w]
            rfl
          refine pure_ (i := 6) (N := some 131) (v := ?_) (a' := ?_) #[true, true, true, true, true, true, true, false, false, false, false, false, false, false, false, false, false, false, false, false, false, false, false, false, false, false, false, false, false] rfl rfl (by kernel_rfl) (fun _ _ _ h => h) (Or.inl ⟨by rfl, ?_⟩) ?_ ?_
          rotate_left
          · intro w'
            go_simp
            with_reducible rfl
          rotate_left
          · simp only [Act.put, List.setIfInBounds_toArray, List.set_cons_zero, List.set_cons_succ, i64_w, i32_w]
            rfl
          refine pure_ (i := 7) (N := some 132) (v := ?_) (a' := ?_) #[true, true, true, true, true, true, true, true, false, false, false, false, false, false, false, false, false, false, false, false, false, false, false, false, false, false, false, false, false] rfl rfl (by kernel_rfl) (fun _ _ _ h => h) (Or.inl ⟨by rfl, ?_⟩) ?_ ?_
          rotate_left
          · intro w'
            go_simp
            with_reducible rfl
          rotate_left
          · simp only [Act.put, List.setIfInBounds_toArray, List.set_cons_zero, List.set_cons_succ, i64_w, i32_w]
            rfl
          refine pure_ (i := 10) (N := some 135) (v := ?_) (a' := ?_) #[true, true, true, true, true, true, true, true, false, false, true, false, false, false, false, false, false, false, false, false, false, false, false, false, false, false, false, false, false] rfl rfl (by kernel_rfl) (fun _ _ _ h => h) (Or.inl ⟨by rfl, ?_⟩) ?_ ?_
          rotate_left
          · intro w'
            go_simp
            with_reducible rfl
          rotate_left
          · simp only [Act.put, List.setIfInBounds_toArray, List.set_cons_zero, List.set_cons_succ, i64_w, i32_w]
            rfl
          refine take_ (i := 8) (N := some 133) (v := ?_) (a' := ?_) #[true, true, true, true, true, true, true, true, true, false, true, false, false, false, false, false, false, false, false, false, false, false, false, false, false, false, false, false, false] rfl rfl (by kernel_rfl) (fun _ _ _ h => h) (Or.inl ⟨by rfl, ?_⟩) hHeld ?_ ?_
          rotate_left
          · rintro w' ⟨s0, s1, s2, s3, s4, s5, s6, s7⟩
            go_simp
            with_reducible rfl
          rotate_left
          · simp only [Act.put, List.setIfInBounds_toArray, List.set_cons_zero, List.set_cons_succ, i64_w, i32_w]
            rfl
          refine pure_ (i := 9) (N := some 134) (v := ?_) (a' := ?_) #[true, true, true, true, true, true, true, true, true, true, true, false, false, false, false, false, false, false, false, false, false, false, false, false, false, false, false, false, false] rfl rfl (by kernel_rfl) (fun _ _ _ h => h) (Or.inl ⟨by rfl, ?_⟩) ?_ ?_
          rotate_left
          · intro w'
            go_simp
            with_reducible rfl
          rotate_left
          · simp only [Act.put, List.setIfInBounds_toArray, List.set_cons_zero, List.set_cons_succ, i64_w, i32_w]
            rfl
          refine take_ (i := 11) (N := some 136) (v := ?_) (a' := ?_) #[true, true, true, true, true, true, true, true, true, true, true, true, false, false, false, false, false, false, false, false, false, false, false, false, false, false, false, false, false] rfl rfl (by kernel_rfl) (fun _ _ _ h => h) (Or.inl ⟨by rfl, ?_⟩) hHeld ?_ ?_
          rotate_left
          · rintro w' ⟨s0, s1, s2, s3, s4, s5, s6, s7⟩
            go_simp
            with_reducible rfl
          rotate_left
          · simp only [Act.put, List.setIfInBounds_toArray, List.set_cons_zero, List.set_cons_succ, i64_w, i32_w]
            rfl
          refine pure_ (i := 12) (N := some 137) (v := ?_) (a' := ?_) #[true, true, true, true, true, true, true, true, true, true, true, true, true, false, false, false, false, false, false, false, false, false, false, false, false, false, false, false, false] rfl rfl (by kernel_rfl) (fun _ _ _ h => h) (Or.inl ⟨by rfl, ?_⟩) ?_ ?_
          rotate_left
          · intro w'
            go_simp
            with_reducible rfl
          rotate_left
          · simp only [Act.put, List.setIfInBounds_toArray, List.set_cons_zero, List.set_cons_succ, i64_w, i32_w]
            rfl
          refine pure_ (i := 13) (N := some 138) (v := ?_) (a' := ?_) #[true, true, true, true, true, true, true, true, true, true, true, true, true, true, false, false, false, false, false, false, false, false, false, false, false, false, false, false, false] rfl rfl (by kernel_rfl) (fun _ _ _ h => h) (Or.inl ⟨by rfl, ?_⟩) ?_ ?_
          rotate_left
          · intro w'
            go_simp
            with_reducible rfl
          rotate_left
          · simp only [Act.put, List.setIfInBounds_toArray, List.set_cons_zero, List.set_cons_succ, i64_w, i32_w]
            rfl
          refine pure_ (i := 14) (N := some 139) (v := ?_) (a' := ?_) #[true, true, true, true, true, true, true, true, true, true, true, true, true, true, true, false, false, false, false, false, false, false, false, false, false, false, false, false, false] rfl rfl (by kernel_rfl) (fun _ _ _ h => h) (Or.inl ⟨by rfl, ?_⟩) ?_ ?_
          rotate_left
          · intro w'
            go_simp
            with_reducible rfl
          rotate_left
          · simp only [Act.put, List.setIfInBounds_toArray, List.set_cons_zero, List.set_cons_succ, i64_w, i32_w]
            rfl
          refine pure_ (i := 15) (N := some 140) (v := ?_) (a' := ?_) #[true, true, true, true, true, true, true, true, true, true, true, true, true, true, true, true, false, false, false, false, false, false, false, false, false, false, false, false, false] rfl rfl (by kernel_rfl) (fun _ _ _ h => h) (Or.inl ⟨by rfl, ?_⟩) ?_ ?_
          rotate_left
          · intro w'
            go_simp
            with_reducible rfl
          rotate_left
          · simp only [Act.put, List.setIfInBounds_toArray, List.set_cons_zero, List.set_cons_succ, i64_w, i32_w]
            rfl
          refine pure_ (i := 17) (N := some 142) (v := ?_) (a' := ?_) #[true, true, true, true, true, true, true, true, true, true, true, true, true, true, true, true, false, true, false, false, false, false, false, false, false, false, false, false, false] rfl rfl (by kernel_rfl) (fun _ _ _ h => h) (Or.inl ⟨by rfl, ?_⟩) ?_ ?_
          rotate_left
          · intro w'
            go_simp
            with_reducible rfl
          rotate_left
          · simp only [Act.put, List.setIfInBounds_toArray, List.set_cons_zero, List.set_cons_succ, i64_w, i32_w]
            rfl
          refine pure_ (i := 18) (N := some 143) (v := ?_) (a' := ?_) #[true, true, true, true, true, true, true, true, true, true, true, true, true, true, true, true, false, true, true, false, false, false, false, false, false, false, false, false, false] rfl rfl (by kernel_rfl) (fun _ _ _ h => h) (Or.inl ⟨by rfl, ?_⟩) ?_ ?_
          rotate_left
          · intro w'
            go_simp
            with_reducible rfl
          rotate_left
          · simp only [Act.put, List.setIfInBounds_toArray, List.set_cons_zero, List.set_cons_succ, i64_w, i32_w]
            rfl
          refine pure_ (i := 19) (N := some 144) (v := ?_) (a' := ?_) #[true, true, true, true, true, true, true, true, true, true, true, true, true, true, true, true, false, true, true, true, false, false, false, false, false, false, false, false, false] rfl rfl (by kernel_rfl) (fun _ _ _ h => h) (Or.inl ⟨by rfl, ?_⟩) ?_ ?_
          rotate_left
          · intro w'
            go_simp
            with_reducible rfl
          rotate_left
          · simp only [Act.put, List.setIfInBounds_toArray, List.set_cons_zero, List.set_cons_succ, i64_w, i32_w]
            rfl
          refine pure_ (i := 21) (N := some 146) (v := ?_) (a' := ?_) #[true, true, true, true, true, true, true, true, true, true, true, true, true, true, true, true, false, true, true, true, false, true, false, false, false, false, false, false, false] rfl rfl (by kernel_rfl) (fun _ _ _ h => h) (Or.inl ⟨by rfl, ?_⟩) ?_ ?_
          rotate_left
          · intro w'
            go_simp
            with_reducible rfl
          rotate_left
          · simp only [Act.put, List.setIfInBounds_toArray, List.set_cons_zero, List.set_cons_succ, i64_w, i32_w]
            rfl
          refine take_ (i := 16) (N := some 141) (v := ?_) (a' := ?_) #[true, true, true, true, true, true, true, true, true, true, true, true, true, true, true, true, true, true, true, true, false, true, false, false, false, false, false, false, false] rfl rfl (by kernel_rfl) (fun _ _ _ h => h) (Or.inl ⟨by rfl, ?_⟩) hHeld ?_ ?_
          rotate_left
          · rintro w' ⟨s0, s1, s2, s3, s4, s5, s6, s7⟩
            go_simp
            with_reducible rfl
          rotate_left
          · simp only [Act.put, List.setIfInBounds_toArray, List.set_cons_zero, List.set_cons_succ, i64_w, i32_w]
            rfl
          refine take_ (i := 20) (N := some 145) (v := ?_) (a' := ?_) #[true, true, true, true, true, true, true, true, true, true, true, true, true, true, true, true, true, true, true, true, true, true, false, false, false, false, false, false, false] rfl rfl (by kernel_rfl) (fun _ _ _ h => h) (Or.inl ⟨by rfl, ?_⟩) hHeld ?_ ?_
          rotate_left
          · rintro w' ⟨s0, s1, s2, s3, s4, s5, s6, s7⟩
            go_simp
            with_reducible rfl
          rotate_left
          · simp only [Act.put, List.setIfInBounds_toArray, List.set_cons_zero, List.set_cons_succ, i64_w, i32_w]
            rfl
          refine pure_ (i := 22) (N := some 147) (v := ?_) (a' := ?_) #[true, true, true, true, true, true, true, true, true, true, true, true, true, true, true, true, true, true, true, true, true, true, true, false, false, false, false, false, false] rfl rfl (by kernel_rfl) (fun _ _ _ h => h) (Or.inl ⟨by rfl, ?_⟩) ?_ ?_
          rotate_left
          · intro w'
            go_simp
            with_reducible rfl
          rotate_left
          · simp only [Act.put, List.setIfInBounds_toArray, List.set_cons_zero, List.set_cons_succ, i64_w, i32_w]
            rfl
          refine take_ (i := 23) (N := some 148) (v := ?_) (a' := ?_) #[true, true, true, true, true, true, true, true, true, true, true, true, true, true, true, true, true, true, true, true, true, true, true, true, false, false, false, false, false] rfl rfl (by kernel_rfl) (fun _ _ _ h => h) (Or.inl ⟨by rfl, ?_⟩) hHeld ?_ ?_
          rotate_left
          · rintro w' ⟨s0, s1, s2, s3, s4, s5, s6, s7⟩
            go_simp
            with_reducible rfl
          rotate_left
          · simp only [Act.put, List.setIfInBounds_toArray, List.set_cons_zero, List.set_cons_succ, i64_w, i32_w]
            rfl
          refine take_ (i := 25) (N := some 150) (v := ?_) (a' := ?_) #[true, true, true, true, true, true, true, true, true, true, true, true, true, true, true, true, true, true, true, true, true, true, true, true, false, true, false, false, false] rfl rfl (by kernel_rfl) (fun _ _ _ h => h) (Or.inl ⟨by rfl, ?_⟩) hHeld ?_ ?_
          rotate_left
          · rintro w' ⟨s0, s1, s2, s3, s4, s5, s6, s7⟩
            go_simp
            with_reducible rfl
          rotate_left
          · simp only [Act.put, List.setIfInBounds_toArray, List.set_cons_zero, List.set_cons_succ, i64_w, i32_w]
            rfl
          refine one_ (i := 24) (N := some 149) #[true, true, true, true, true, true, true, true, true, true, true, true, true, true, true, true, true, true, true, true, true, true, true, true, true, true, false, false, false] rfl rfl (by kernel_rfl) (by decide) (fun K hK => ?_)
          refine goes_ Try.func39 (by kernel_rfl) rfl #[.agg #[.bool false, .slice A6 q c6, .slice (some ad) q d6], .int .i64 (i : Int), .int .u64 key, .int .u64 z] (by rfl) rfl rfl (by simp only [List.map_toArray, List.map_cons, List.map_nil]; rfl) ?_
          with_reducible refine (set_at false XS YS Ks (places q) A6 (some ad) q c6 q d6 q (i : Int) key z _ (K7d.out.rd 1 rfl) (K7d.out.rd 0 rfl) (Nat.min_self _) HS.out.2.2.1 HS.out.2.2.2 C6.out.1 C6.out.2 HB.out).mono ?_
          rintro e w8 ⟨A8, c8, B8, d8, rfl, o1, hb⟩
          refine ⟨_, rfl, ?_⟩
          have hb1 := below_then (below_drew (Below.refl w7.heap.size w7)) (Nat.le_refl _) hb
          have K8 := Lib.hid (((K7.out.below hb1).addRd (mine_reads o1.k)).addRd (mine_reads o1.v))
          have C8 := Lib.hid (And.intro (pw_cell_below hb1 C7.out.1) (pw_cell_below hb1 C7.out.2))
          have B8x := Lib.hid (below_then' B7.out hb1)
          clear hb hb1 o1
          refine hK.out _ _ ⟨cell_row (K8.out.row 0 rfl) rfl, cell_row (K8.out.row 0 rfl) rfl, cell_row (K8.out.row 0 rfl) rfl, cell_row (K8.out.row 1 rfl) rfl, cell_row (K8.out.row 1 rfl) rfl, cell_row (K8.out.row 1 rfl) rfl, C8.out.1, C8.out.2⟩ (fun hHeld => ?_)
          clear hK K
          refine norm_ (a' := ?_) ?_ ?_
          rotate_left
          · show Act.put _ (some 149) _ = _
            simp only [Act.put, List.setIfInBounds_toArray, List.set_cons_zero, List.set_cons_succ, i64_w, i32_w]
            rfl
          refine one_ (i := 26) (N := some 151) #[true, true, true, true, true, true, true, true, true, true, true, true, true, true, true, true, true, true, true, true, true, true, true, true, true, true, true, false, false] rfl rfl (by kernel_rfl) (by decide) (fun K hK => ?_)
          refine goes_ Try.func26 (by kernel_rfl) rfl #[.agg #[.bool false, .slice A8 q c8, .slice B8 q d8], .agg #[.bool false, .slice a1 q k1, .slice (some ae) q v1]] (by rfl) rfl rfl (by simp only [List.map_toArray, List.map_cons, List.map_nil]; rfl) ?_
          with_reducible refine (rsame_true false Ks (places q) Ks (places q) A8 B8 a1 (some ae) q c8 q d8 q k1 q v1 _ (K8.out.rd 1 rfl) (K8.out.rd 0 rfl) (K8.out.rd 5 rfl) (K8.out.rd 4 rfl) rfl rfl).mono ?_
          rintro e w9 ⟨rfl, hb⟩
          refine ⟨_, rfl, ?_⟩
          have K9 := Lib.hid (K8.out.below hb)
          have C9 := Lib.hid (And.intro (pw_cell_below hb C8.out.1) (pw_cell_below hb C8.out.2))
          have B9x := Lib.hid (below_then' B8x.out hb)
          clear hb
          refine hK.out _ _ ⟨cell_row (K9.out.row 0 rfl) rfl, cell_row (K9.out.row 0 rfl) rfl, cell_row (K9.out.row 0 rfl) rfl, cell_row (K9.out.row 1 rfl) rfl, cell_row (K9.out.row 1 rfl) rfl, cell_row (K9.out.row 1 rfl) rfl, C9.out.1, C9.out.2⟩ (fun hHeld => ?_)
          clear hK K
          refine norm_ (a' := ?_) ?_ ?_
          rotate_left
          · show Act.put _ (some 151) _ = _
            simp only [Act.put, List.setIfInBounds_toArray, List.set_cons_zero, List.set_cons_succ, i64_w, i32_w]
            rfl
          refine pure_ (i := 27) (N := some 152) (v := ?_) (a' := ?_) #[true, true, true, true, true, true, true, true, true, true, true, true, true, true, true, true, true, true, true, true, true, true, true, true, true, true, true, true, false] rfl rfl (by kernel_rfl) (fun _ _ _ h => h) (Or.inl ⟨by rfl, ?_⟩) ?_ ?_
          rotate_left
          · intro w'
            go_simp
            with_reducible rfl
          rotate_left
          · simp only [Act.put, List.setIfInBounds_toArray, List.set_cons_zero, List.set_cons_succ, i64_w, i32_w]
            rfl
          refine pure_ (i := 28) (N := some 4) (v := ?_) (a' := ?_) #[true, true, true, true, true, true, true, true, true, true, true, true, true, true, true, true, true, true, true, true, true, true, true, true, true, true, true, true, true] rfl rfl (by kernel_rfl) (fun _ _ _ h => h) (Or.inl ⟨by rfl, ?_⟩) ?_ ?_
          rotate_left
          · intro w'
            go_simp
            with_reducible rfl
          rotate_left
          · simp only [Act.put, List.setIfInBounds_toArray, List.set_cons_zero, List.set_cons_succ, i64_w, i32_w]
            rfl
          refine done_ (by kernel_rfl) ?_
          clear hHeld
          go_wp2_with fail
          go_ret
          exact ⟨rfl, B9x.out⟩
        | false =>
          have ha := of_decide_eq_false HI.out.2.1
          have hiq := HIQ.out
          obtain ⟨hup2, hpos⟩ := ins_up HU.out T1.out.1 HI.out.1 ha
          obtain ⟨XI, hxi⟩ : ∃ x, insL Ks (i : Int) key = x := ⟨_, rfl⟩
          obtain ⟨YI, hyi⟩ : ∃ x, insL (places q) (i : Int) 7 = x := ⟨_, rfl⟩
          have lxi : XI.length = q + 1 := by rw [← hxi, insL_len, T1.out.1]
          have lyi : YI.length = q + 1 := by rw [← hyi, insL_len, T1.out.2]
          have yk : XI.getD i 0 = key := by rw [← hxi]; exact ins_get (by rw [T1.out.1]; exact hiq)
          have y7 : YI.getD i 0 = 7 := by rw [← hyi]; exact ins_get (by rw [T1.out.2]; exact hiq)
          have rk : remL XI (i : Int) = Ks := by rw [← hxi]; exact ins_rem (by rw [T1.out.1]; exact hiq)
          have rv : remL YI (i : Int) = places q := by rw [← hyi]; exact ins_rem (by rw [T1.out.2]; exact hiq)
          have tk : Ks.take q = Ks := List.take_of_length_le (Nat.le_of_eq T1.out.1)
          have tv : (places q).take q = places q := List.take_of_length_le (Nat.le_of_eq T1.out.2)
          have tx : XI.take (q + 1) = XI := List.take_of_length_le (Nat.le_of_eq lxi)
          have ty : YI.take (q + 1) = YI := List.take_of_length_le (Nat.le_of_eq lyi)
          rw [hxi] at hup2 hpos
          have HS := Lib.hid (And.intro (show insL (Ks.take q) (i : Int) key = XI by rw [tk]; exact hxi) (And.intro (show insL ((places q).take q) (i : Int) 7 = YI by rw [tv]; exact hyi) (And.intro (show remL (XI.take (q + 1)) (i : Int) = Ks by rw [tx]; exact rk) (show remL (YI.take (q + 1)) (i : Int) = places q by rw [ty]; exact rv))))
          have HP := Lib.hid (And.intro hpos (And.intro (show decide (i < q + 1 ∧ XI.getD i 0 = key) = true from decide_eq_true ⟨by omega, yk⟩) (And.intro hup2 (And.intro lxi y7))))
          have HR := Lib.hid (show remN (q + 1) (i : Int) = q by unfold remN; rw [if_pos (by omega)]; rfl)
          have HW := Lib.hid (show min (i : Int).toNat q = i ∧ (q + 1) * 8 ≤ 140737488355328 ∧ i < q + 1 by omega)
          clear ha hup2 hpos hxi hyi lxi lyi yk y7 rk rv tk tv tx ty hiq
          go_wp2_with (first | ((with_reducible refine wpList_load_row rfl 24 (.tmp 5) rfl w1.heap.size ?_ 24 _ _ _ (K5.out.row 0 rfl) Try.underlying24 ?_ (size3 _ _ _) ?_); rfl; rfl))
          refine (inst_at false Ks (places q) XI YI a1 b1 q k1 q v1 q i (i : Int) key 7 _ (K5.out.rd 1 rfl) (K5.out.rd 0 rfl) (Nat.min_self _) HS.out.1 HS.out.2.1 HW.out.1 ⟨O1.out.lk, O1.out.lv⟩ ⟨fun h => (O1.out.nk h).2, fun h => (O1.out.nv h).2⟩ HW.out.2.1).mono ?_; rintro e w6 ⟨A6, c6, B6, d6, rfl, o1, hb⟩
          have K6 := Lib.hid (((K5.out.below hb).addRd (mine_reads o1.k)).addRd (mine_reads o1.v))
          have BB6 := Lib.hid (below_then' B5.out hb)
          have C6 := Lib.hid (And.intro (And.intro o1.lk o1.lv) (And.intro (fun h => (o1.nk h).2) (fun h => (o1.nv h).2)))
          clear hb o1 K5 B5
          obtain ⟨yc, hyc⟩ : ∃ x, w6.alloc (.cells #[.bool false, .slice none 0 0, .slice none 0 0] 24) = x := ⟨_, rfl⟩
          obtain ⟨w7, hyd⟩ : ∃ x, yc.setRow w6.heap.size #[.bool false, .slice A6 (q + 1) c6, .slice B6 (q + 1) d6] = x := ⟨_, rfl⟩
          have X7 := Lib.hid (one_row hyc hyd)
          have K7 := Lib.hid ((K6.out.below X7.out.1).addRow X7.out.2.2)
          have B7 := Lib.hid (below_then' BB6.out X7.out.1)
          go_wp2_with (first | ((with_reducible refine wpList_store_row rfl 24 (.tmp 12) (.tmp 156) rfl w6.heap.size #[.bool false, .slice A6 (q + 1) c6, .slice B6 (q + 1) d6] ?_ ?_ 24 _ X7.out.2.1 (size3 _ _ _) ?_ (one3 _ _ _ _ _ _ _) ?_); rfl; rfl; rfl; rw [hyd]) | ((with_reducible refine wpList_load_row rfl 24 (.tmp 12) rfl w6.heap.size ?_ 24 _ _ _ (K7.out.row 0 rfl) Try.underlying24 ?_ (size3 _ _ _) ?_); rfl; rfl))
          clear hyc hyd X7 K6 BB6
          refine (find_at false XI YI A6 B6 (q + 1) c6 (q + 1) d6 key _ (K7.out.rd 1 rfl) (K7.out.rd 0 rfl) (Nat.min_self _) HP.out.1 HP.out.2.1).mono ?_; rintro e w8 ⟨rfl, hb⟩
          have K8 := Lib.hid (K7.out.below hb)
          have B8 := Lib.hid (below_then' B7.out hb)
          clear hb K7 B7
          go_wp2_with fail
          go_loopw [15] (fun iv wr => ∃ j : Nat, j ≤ q ∧ iv = .int .i64 ((j : Int) + 1) ∧ Keeps [(w6.heap.size, .cells #[.bool false, .slice A6 (q + 1) c6, .slice B6 (q + 1) d6] 24), (w1.heap.size, .cells #[.bool false, .slice a1 q k1, .slice b1 q v1] 24)] [(B6, q + 1, YI), (A6, q + 1, XI), (b1, q, places q), (a1, q, Ks)] wr ∧ Below w.heap.size w wr) (fun iv _ => q + 1 - (intOf iv).toNat)
          case atStart => exact ⟨0, by omega, rfl, K8.out, B8.out⟩
          case round =>
            obtain ⟨j, hj, rfl, hk9, hb9⟩ := hrel
            have K9 := Lib.hid hk9
            have B9 := Lib.hid hb9
            clear hk9 hb9 K8 B8
            have x1 : wr.cell? ⟨w6.heap.size, 1, none⟩ = some (.slice A6 (q + 1) c6) := cell_row (K9.out.row 0 rfl) rfl
            by_cases hlt : j < q
            · have dj : decide ((j : Int) + 1 < (q : Int) + 1) = true := decide_eq_true (by omega)
              have djn : decide (j + 1 < q + 1) = true := decide_eq_true (by omega)
              have dji : decide ((j : Int) < (q : Int)) = true := decide_eq_true (by omega)
              have djm : decide (j < q) = true := decide_eq_true hlt
              obtain ⟨ad, rfl, c1⟩ := cell_at (K9.out.rd 1 rfl) j (by omega)
              obtain ⟨ad', had, c2⟩ := cell_at (K9.out.rd 1 rfl) (j + 1) (by omega)
              injection had with had
              subst had
              have hlt2 := up_get HP.out.2.2.1 (i := j) (j := j + 1) (by omega) (by rw [HP.out.2.2.2.1]; omega)
              obtain ⟨x, hx⟩ : ∃ x, XI.getD j 0 = x := ⟨_, rfl⟩
              obtain ⟨y, hy⟩ : ∃ y, XI.getD (j + 1) 0 = y := ⟨_, rfl⟩
              rw [hx] at c1 hlt2
              rw [hy] at c2 hlt2
              have c3 : wr.cell? ⟨ad.block, ad.off + (j + 1), none⟩ = some (.int .u64 y) := by simpa [Addr.add] using c2
              have dy : decide (y ≤ x) = false := decide_eq_false (by omega)
              have j0 : (0 : Int) ≤ (j : Int) := by omega
              have j1 : (j : Int) < (q : Int) + 1 := by omega
              have j2 : (j : Int) + 1 < (q : Int) + 1 := by omega
              have j3 : (0 : Int) ≤ (j : Int) + 1 := by omega
              have j4 : ((j : Int) + 1).toNat = j + 1 := by omega
              have j5 : (j : Int) < 201 := by omega
              have HK := Lib.hid (show j + 1 ≤ q from hlt)
              clear hlt hj hlt2 hx hy
              go_wp2_with fail
              go_quiet (fail)
              go_wp2_with fail
              go_roundw
              case rel => exact ⟨j + 1, HK.out, by push_cast; rfl, K9.out.dn _, below_dn B9.out _⟩
              case measure => simp [intOf]; have := HK.out; omega
            · obtain rfl : q = j := by omega
              have dj : decide ((q : Int) + 1 < (q : Int) + 1) = false := by simp
              clear hj hlt
              go_wp2_with fail
              clear x1
              have i0 : (0 : Int) ≤ (i : Int) := by omega
              have i1 : (i : Int) < (q : Int) + 1 := by have := HW.out.2.2; omega
              obtain ⟨ad, rfl, hc9⟩ := cell_at (K9.out.rd 0 rfl) i HW.out.2.2
              rw [HP.out.2.2.2.2] at hc9
              have C9 := Lib.hid hc9
              have K9d := Lib.hid K9.out.drew
              clear hc9
              refine start_ (n := 22) (S := fun w' => w'.cell? ⟨w6.heap.size, 0, none⟩ = some (.bool false) ∧ w'.cell? ⟨w6.heap.size, 1, none⟩ = some (.slice A6 (q + 1) c6) ∧ w'.cell? ⟨w6.heap.size, 2, none⟩ = some (.slice (some ad) (q + 1) d6) ∧ w'.cell? ⟨w1.heap.size, 0, none⟩ = some (.bool false) ∧ w'.cell? ⟨w1.heap.size, 1, none⟩ = some (.slice a1 q k1) ∧ w'.cell? ⟨w1.heap.size, 2, none⟩ = some (.slice b1 q v1) ∧ w'.cell? (ad.add i) = some (.int .u64 7)) (ds := []) #[false, false, false, false, false, false, false, false, false, false, false, false, false, false, false, false, false, false, false, false, false, false] (by kernel_rfl) rfl rfl ⟨cell_row (K9.out.row 0 rfl) rfl, cell_row (K9.out.row 0 rfl) rfl, cell_row (K9.out.row 0 rfl) rfl, cell_row (K9.out.row 1 rfl) rfl, cell_row (K9.out.row 1 rfl) rfl, cell_row (K9.out.row 1 rfl) rfl, C9.out⟩ (fun hHeld => ?_)
              refine pure_ (i := 0) (N := some 182) (v := ?_) (a' := ?_) #[true, false, false, false, false, false, false, false, false, false, false, false, false, false, false, false, false, false, false, false, false, false] rfl rfl (by kernel_rfl) (fun _ _ _ h => h) (Or.inl ⟨by rfl, ?_⟩) ?_ ?_
              rotate_left
              · intro w'
                go_simp
                with_reducible rfl
              rotate_left
              · simp only [Act.put, List.setIfInBounds_toArray, List.set_cons_zero, List.set_cons_succ, i64_w, i32_w]
                rfl
              refine pure_ (i := 1) (N := some 183) (v := ?_) (a' := ?_) #[true, true, false, false, false, false, false, false, false, false, false, false, false, false, false, false, false, false, false, false, false, false] rfl rfl (by kernel_rfl) (fun _ _ _ h => h) (Or.inl ⟨by rfl, ?_⟩) ?_ ?_
              rotate_left
              · intro w'
                go_simp
                with_reducible rfl
              rotate_left
              · simp only [Act.put, List.setIfInBounds_toArray, List.set_cons_zero, List.set_cons_succ, i64_w, i32_w]
                rfl
              refine pure_ (i := 2) (N := some 184) (v := ?_) (a' := ?_) #[true, true, true, false, false, false, false, false, false, false, false, false, false, false, false, false, false, false, false, false, false, false] rfl rfl (by kernel_rfl) (fun _ _ _ h => h) (Or.inl ⟨by rfl, ?_⟩) ?_ ?_
              rotate_left
              · intro w'
                go_simp
                with_reducible rfl
              rotate_left
              · simp only [Act.put, List.setIfInBounds_toArray, List.set_cons_zero, List.set_cons_succ, i64_w, i32_w]
                rfl
              refine pure_ (i := 3) (N := some 185) (v := ?_) (a' := ?_) #[true, true, true, true, false, false, false, false, false, false, false, false, false, false, false, false, false, false, false, false, false, false] rfl rfl (by kernel_rfl) (fun _ _ _ h => h) (Or.inl ⟨by rfl, ?_⟩) ?_ ?_
              rotate_left
              · intro w'
                go_simp
                with_reducible rfl
              rotate_left
              · simp only [Act.put, List.setIfInBounds_toArray, List.set_cons_zero, List.set_cons_succ, i64_w, i32_w]
                rfl
              refine pure_ (i := 4) (N := some 186) (v := ?_) (a' := ?_) #[true, true, true, true, true, false, false, false, false, false, false, false, false, false, false, false, false, false, false, false, false, false] rfl rfl (by kernel_rfl) (fun _ _ _ h => h) (Or.inl ⟨by rfl, ?_⟩) ?_ ?_
              rotate_left
              · intro w'
                go_simp
                with_reducible rfl
              rotate_left
              · simp only [Act.put, List.setIfInBounds_toArray, List.set_cons_zero, List.set_cons_succ, i64_w, i32_w]
                rfl
              refine pure_ (i := 5) (N := some 187) (v := ?_) (a' := ?_) #[true, true, true, true, true, true, false, false, false, false, false, false, false, false, false, false, false, false, false, false, false, false] rfl rfl (by kernel_rfl) (fun _ _ _ h => h) (Or.inl ⟨by rfl, ?_⟩) ?_ ?_
              rotate_left
              · intro w'
                go_simp
                with_reducible rfl
              rotate_left
              · simp only [Act.put, List.setIfInBounds_toArray, List.set_cons_zero, List.set_cons_succ, i64_w, i32_w]
                rfl
              refine pure_ (i := 6) (N := some 188) (v := ?_) (a' := ?_) #[true, true, true, true, true, true, true, false, false, false, false, false, false, false, false, false, false, false, false, false, false, false] rfl rfl (by kernel_rfl) (fun _ _ _ h => h) (Or.inl ⟨by rfl, ?_⟩) ?_ ?_
              rotate_left
              · intro w'
                go_simp
                with_reducible rfl
              rotate_left
              · simp only [Act.put, List.setIfInBounds_toArray, List.set_cons_zero, List.set_cons_succ, i64_w, i32_w]
                rfl
              refine pure_ (i := 7) (N := some 189) (v := ?_) (a' := ?_) #[true, true, true, true, true, true, true, true, false, false, false, false, false, false, false, false, false, false, false, false, false, false] rfl rfl (by kernel_rfl) (fun _ _ _ h => h) (Or.inl ⟨by rfl, ?_⟩) ?_ ?_
              rotate_left
              · intro w'
                go_simp
                with_reducible rfl
              rotate_left
              · simp only [Act.put, List.setIfInBounds_toArray, List.set_cons_zero, List.set_cons_succ, i64_w, i32_w]
                rfl
              refine pure_ (i := 9) (N := some 191) (v := ?_) (a' := ?_) #[true, true, true, true, true, true, true, true, false, true, false, false, false, false, false, false, false, false, false, false, false, false] rfl rfl (by kernel_rfl) (fun _ _ _ h => h) (Or.inl ⟨by rfl, ?_⟩) ?_ ?_
              rotate_left
              · intro w'
                go_simp
                with_reducible rfl
              rotate_left
              · simp only [Act.put, List.setIfInBounds_toArray, List.set_cons_zero, List.set_cons_succ, i64_w, i32_w]
                rfl
              refine take_ (i := 8) (N := some 190) (v := ?_) (a' := ?_) #[true, true, true, true, true, true, true, true, true, true, false, false, false, false, false, false, false, false, false, false, false, false] rfl rfl (by kernel_rfl) (fun _ _ _ h => h) (Or.inl ⟨by rfl, ?_⟩) hHeld ?_ ?_
              rotate_left
              · rintro w' ⟨s0, s1, s2, s3, s4, s5, s6⟩
                go_simp
                with_reducible rfl
              rotate_left
              · simp only [Act.put, List.setIfInBounds_toArray, List.set_cons_zero, List.set_cons_succ, i64_w, i32_w]
                rfl
              refine pure_ (i := 10) (N := some 192) (v := ?_) (a' := ?_) #[true, true, true, true, true, true, true, true, true, true, true, false, false, false, false, false, false, false, false, false, false, false] rfl rfl (by kernel_rfl) (fun _ _ _ h => h) (Or.inl ⟨by rfl, ?_⟩) ?_ ?_
              rotate_left
              · intro w'
                go_simp
                with_reducible rfl
              rotate_left
              · simp only [Act.put, List.setIfInBounds_toArray, List.set_cons_zero, List.set_cons_succ, i64_w, i32_w]
                rfl
              refine take_ (i := 11) (N := some 193) (v := ?_) (a' := ?_) #[true, true, true, true, true, true, true, true, true, true, true, true, false, false, false, false, false, false, false, false, false, false] rfl rfl (by kernel_rfl) (fun _ _ _ h => h) (Or.inl ⟨by rfl, ?_⟩) hHeld ?_ ?_
              rotate_left
              · rintro w' ⟨s0, s1, s2, s3, s4, s5, s6⟩
                go_simp
                with_reducible rfl
              rotate_left
              · simp only [Act.put, List.setIfInBounds_toArray, List.set_cons_zero, List.set_cons_succ, i64_w, i32_w]
                rfl
              refine pure_ (i := 12) (N := some 194) (v := ?_) (a' := ?_) #[true, true, true, true, true, true, true, true, true, true, true, true, true, false, false, false, false, false, false, false, false, false] rfl rfl (by kernel_rfl) (fun _ _ _ h => h) (Or.inl ⟨by rfl, ?_⟩) ?_ ?_
              rotate_left
              · intro w'
                go_simp
                with_reducible rfl
              rotate_left
              · simp only [Act.put, List.setIfInBounds_toArray, List.set_cons_zero, List.set_cons_succ, i64_w, i32_w]
                rfl
              refine pure_ (i := 13) (N := some 195) (v := ?_) (a' := ?_) #[true, true, true, true, true, true, true, true, true, true, true, true, true, true, false, false, false, false, false, false, false, false] rfl rfl (by kernel_rfl) (fun _ _ _ h => h) (Or.inl ⟨by rfl, ?_⟩) ?_ ?_
              rotate_left
              · intro w'
                go_simp
                with_reducible rfl
              rotate_left
              · simp only [Act.put, List.setIfInBounds_toArray, List.set_cons_zero, List.set_cons_succ, i64_w, i32_w]
                rfl
              refine pure_ (i := 14) (N := some 196) (v := ?_) (a' := ?_) #[true, true, true, true, true, true, true, true, true, true, true, true, true, true, true, false, false, false, false, false, false, false] rfl rfl (by kernel_rfl) (fun _ _ _ h => h) (Or.inl ⟨by rfl, ?_⟩) ?_ ?_
              rotate_left
              · intro w'
                go_simp
                with_reducible rfl
              rotate_left
              · simp only [Act.put, List.setIfInBounds_toArray, List.set_cons_zero, List.set_cons_succ, i64_w, i32_w]
                rfl
              refine pure_ (i := 16) (N := some 198) (v := ?_) (a' := ?_) #[true, true, true, true, true, true, true, true, true, true, true, true, true, true, true, false, true, false, false, false, false, false] rfl rfl (by kernel_rfl) (fun _ _ _ h => h) (Or.inl ⟨by rfl, ?_⟩) ?_ ?_
              rotate_left
              · intro w'
                go_simp
                with_reducible rfl
              rotate_left
              · simp only [Act.put, List.setIfInBounds_toArray, List.set_cons_zero, List.set_cons_succ, i64_w, i32_w]
                rfl
              refine take_ (i := 15) (N := some 197) (v := ?_) (a' := ?_) #[true, true, true, true, true, true, true, true, true, true, true, true, true, true, true, true, true, false, false, false, false, false] rfl rfl (by kernel_rfl) (fun _ _ _ h => h) (Or.inl ⟨by rfl, ?_⟩) hHeld ?_ ?_
              rotate_left
              · rintro w' ⟨s0, s1, s2, s3, s4, s5, s6⟩
                go_simp
                with_reducible rfl
              rotate_left
              · simp only [Act.put, List.setIfInBounds_toArray, List.set_cons_zero, List.set_cons_succ, i64_w, i32_w]
                rfl
              refine take_ (i := 18) (N := some 200) (v := ?_) (a' := ?_) #[true, true, true, true, true, true, true, true, true, true, true, true, true, true, true, true, true, false, true, false, false, false] rfl rfl (by kernel_rfl) (fun _ _ _ h => h) (Or.inl ⟨by rfl, ?_⟩) hHeld ?_ ?_
              rotate_left
              · rintro w' ⟨s0, s1, s2, s3, s4, s5, s6⟩
                go_simp
                with_reducible rfl
              rotate_left
              · simp only [Act.put, List.setIfInBounds_toArray, List.set_cons_zero, List.set_cons_succ, i64_w, i32_w]
                rfl
              refine one_ (i := 17) (N := some 199) #[true, true, true, true, true, true, true, true, true, true, true, true, true, true, true, true, true, true, true, false, false, false] rfl rfl (by kernel_rfl) (by decide) (fun K hK => ?_)
              refine goes_ Try.func40 (by kernel_rfl) rfl #[.agg #[.bool false, .slice A6 (q + 1) c6, .slice (some ad) (q + 1) d6], .int .i64 (i : Int)] (by rfl) rfl rfl (by simp only [List.map_toArray, List.map_cons, List.map_nil]; rfl) ?_
              with_reducible refine (rem_at false XI YI Ks (places q) A6 (some ad) (q + 1) c6 (q + 1) d6 (q + 1) q (i : Int) _ (K9d.out.rd 1 rfl) (K9d.out.rd 0 rfl) (Nat.min_self _) HS.out.2.2.1 HS.out.2.2.2 HR.out C6.out.1 C6.out.2 HW.out.2.1).mono ?_
              rintro e w10 ⟨A8, c8, B8, d8, rfl, o1, hb⟩
              refine ⟨_, rfl, ?_⟩
              have hb1 := below_then (below_drew (Below.refl wr.heap.size wr)) (Nat.le_refl _) hb
              have K10 := Lib.hid (((K9.out.below hb1).addRd (mine_reads o1.k)).addRd (mine_reads o1.v))
              have C10 := Lib.hid (pw_cell_below hb1 C9.out)
              have B10 := Lib.hid (below_then' B9.out hb1)
              clear hb hb1 o1
              refine hK.out _ _ ⟨cell_row (K10.out.row 0 rfl) rfl, cell_row (K10.out.row 0 rfl) rfl, cell_row (K10.out.row 0 rfl) rfl, cell_row (K10.out.row 1 rfl) rfl, cell_row (K10.out.row 1 rfl) rfl, cell_row (K10.out.row 1 rfl) rfl, C10.out⟩ (fun hHeld => ?_)
              clear hK K
              refine norm_ (a' := ?_) ?_ ?_
              rotate_left
              · show Act.put _ (some 199) _ = _
                simp only [Act.put, List.setIfInBounds_toArray, List.set_cons_zero, List.set_cons_succ, i64_w, i32_w]
                rfl
              refine one_ (i := 19) (N := some 201) #[true, true, true, true, true, true, true, true, true, true, true, true, true, true, true, true, true, true, true, true, false, false] rfl rfl (by kernel_rfl) (by decide) (fun K hK => ?_)
              refine goes_ Try.func26 (by kernel_rfl) rfl #[.agg #[.bool false, .slice A8 q c8, .slice B8 q d8], .agg #[.bool false, .slice a1 q k1, .slice b1 q v1]] (by rfl) rfl rfl (by simp only [List.map_toArray, List.map_cons, List.map_nil]; rfl) ?_
              with_reducible refine (rsame_true false Ks (places q) Ks (places q) A8 B8 a1 b1 q c8 q d8 q k1 q v1 _ (K10.out.rd 1 rfl) (K10.out.rd 0 rfl) (K10.out.rd 5 rfl) (K10.out.rd 4 rfl) rfl rfl).mono ?_
              rintro e w11 ⟨rfl, hb⟩
              refine ⟨_, rfl, ?_⟩
              have K11 := Lib.hid (K10.out.below hb)
              have C11 := Lib.hid (pw_cell_below hb C10.out)
              have B11 := Lib.hid (below_then' B10.out hb)
              clear hb
              refine hK.out _ _ ⟨cell_row (K11.out.row 0 rfl) rfl, cell_row (K11.out.row 0 rfl) rfl, cell_row (K11.out.row 0 rfl) rfl, cell_row (K11.out.row 1 rfl) rfl, cell_row (K11.out.row 1 rfl) rfl, cell_row (K11.out.row 1 rfl) rfl, C11.out⟩ (fun hHeld => ?_)
              clear hK K
              refine norm_ (a' := ?_) ?_ ?_
              rotate_left
              · show Act.put _ (some 201) _ = _
                simp only [Act.put, List.setIfInBounds_toArray, List.set_cons_zero, List.set_cons_succ, i64_w, i32_w]
                rfl
              refine pure_ (i := 20) (N := some 202) (v := ?_) (a' := ?_) #[true, true, true, true, true, true, true, true, true, true, true, true, true, true, true, true, true, true, true, true, true, false] rfl rfl (by kernel_rfl) (fun _ _ _ h => h) (Or.inl ⟨by rfl, ?_⟩) ?_ ?_
              rotate_left
              · intro w'
                go_simp
                with_reducible rfl
              rotate_left
              · simp only [Act.put, List.setIfInBounds_toArray, List.set_cons_zero, List.set_cons_succ, i64_w, i32_w]
                rfl
              refine pure_ (i := 21) (N := some 4) (v := ?_) (a' := ?_) #[true, true, true, true, true, true, true, true, true, true, true, true, true, true, true, true, true, true, true, true, true, true] rfl rfl (by kernel_rfl) (fun _ _ _ h => h) (Or.inl ⟨by rfl, ?_⟩) ?_ ?_
              rotate_left
              · intro w'
                go_simp
                with_reducible rfl
              rotate_left
              · simp only [Act.put, List.setIfInBounds_toArray, List.set_cons_zero, List.set_cons_succ, i64_w, i32_w]
                rfl
              refine done_ (by kernel_rfl) ?_
              clear hHeld
              go_wp2_with fail
              go_ret
              exact ⟨rfl, B11.out⟩
end Go.Proofs.Ytdekplalhfpooaa.Knt
