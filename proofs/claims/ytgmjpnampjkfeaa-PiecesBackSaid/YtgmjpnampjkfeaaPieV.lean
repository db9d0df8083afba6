/- Pieces: the document's Lay, byte by byte, by its contract (every input). -/
import Derived.BigQuiet
import Derived.Test.YtgmjpnampjkfeaaPieU
set_option linter.unusedVariables false
set_option linter.unusedSimpArgs false
namespace Go.Proofs.Ytgmjpnampjkfeaa.Pie
open Go Go.RowKit Go.Proofs.YtgmjpnampjkfeaaW.PrintWords Go.Proofs.YtgmjpnampjkfeaaW.PrintLast Go.Proofs.YtgmjpnampjkfeaaW.PrintMore Base

theorem spl_at {L zs : List Int} {off i : Nat} (h : off + zs.length ≤ L.length) : (spl L off zs).getD i 0 = if off ≤ i ∧ i < off + zs.length then zs.getD (i - off) 0 else L.getD i 0 := by
  unfold spl
  simp only [List.getD_eq_getElem?_getD]
  congr 1
  by_cases h1 : i < off
  · rw [List.append_assoc, List.getElem?_append_left (by rw [List.length_take]; omega), List.getElem?_take, if_pos h1, if_neg (by omega)]
  · by_cases h2 : i < off + zs.length
    · rw [List.getElem?_append_left (by rw [List.length_append, List.length_take]; omega), List.getElem?_append_right (by rw [List.length_take]; omega), List.length_take, if_pos (by omega), Nat.min_eq_left (by omega)]
    · rw [List.getElem?_append_right (by rw [List.length_append, List.length_take]; omega), List.length_append, List.length_take, List.getElem?_drop, if_neg (by omega), Nat.min_eq_left (by omega), show off + zs.length + (i - (off + zs.length)) = i by omega]
theorem layB_at {xs : List Int} {i : Nat} (h : i < 256) : (layB xs).getD i 0 = xs.getD i 0 := by
  unfold layB
  rw [spl_at (by rw [List.length_replicate, List.length_take]; omega)]
  have hr : (List.replicate 256 (0 : Int)).getD i 0 = 0 := by simp only [List.getD_eq_getElem?_getD, List.getElem?_replicate]; split <;> rfl
  rw [hr]
  simp only [List.getD_eq_getElem?_getD, Nat.sub_zero, List.length_take, List.getElem?_take, if_pos h]
  split
  · rfl
  · rename_i h1; rw [List.getElem?_eq_none (by omega)]; rfl
/-- What the document lays at a place. -/
def layV (F T a i : Nat) (xs ys : List Int) : Int := if F ≤ i ∧ i < T ∧ i - F < ys.length ∧ a < ys.length - (i - F) then ys.getD (a + (i - F)) 0 else xs.getD i 0
theorem layL_at {F T a i : Nat} {xs ys : List Int} (hm : mayP F T a = true) (hi : i < 256) : (layL F T a xs ys).getD i 0 = layV F T a i xs ys := by
  unfold layL layV
  rw [if_pos hm, Int.toNat_natCast, Int.toNat_natCast, Int.toNat_natCast]
  simp only [mayP, Bool.and_eq_true, decide_eq_true_eq] at hm
  rw [spl_at (by rw [layB_len, List.length_take, List.length_drop]; omega), layB_at hi]
  simp only [List.length_take, List.length_drop]
  by_cases h : F ≤ i ∧ i < T ∧ i - F < ys.length ∧ a < ys.length - (i - F)
  · rw [if_pos h, if_pos (by omega)]
    simp only [List.getD_eq_getElem?_getD, List.getElem?_take, List.getElem?_drop]
    rw [if_pos (by omega), Nat.min_eq_left (by omega)]
  · rw [if_neg h, if_neg (by omega)]
/-- What is laid so far. -/
def soFar (L : List Int) (i : Nat) : List Int := L.take i ++ List.replicate (256 - i) 0
theorem soFar_len {L : List Int} {i : Nat} (hl : L.length = 256) (hi : i ≤ 256) : (soFar L i).length = 256 := by unfold soFar; rw [List.length_append, List.length_take, List.length_replicate]; omega
theorem soFar_set {L : List Int} {i : Nat} (hl : L.length = 256) (hi : i < 256) (u : Int) : (soFar L i).set i u = L.take i ++ u :: List.replicate (255 - i) 0 := by
  unfold soFar
  rw [List.set_append_right _ _ (by rw [List.length_take]; omega), List.length_take, Nat.min_eq_left (by omega), Nat.sub_self, show 256 - i = (255 - i) + 1 by omega, List.replicate_succ]
  rfl
theorem soFar_next {L : List Int} {i : Nat} (hl : L.length = 256) (hi : i < 256) : L.take i ++ L.getD i 0 :: List.replicate (255 - i) 0 = soFar L (i + 1) := by
  unfold soFar
  rw [take_snoc (by omega), List.append_assoc, show 256 - (i + 1) = 255 - i by omega]
  rfl
theorem soFar_zero {L : List Int} {i : Nat} (hl : L.length = 256) (hi : i < 256) : soFar L i = L.take i ++ 0 :: List.replicate (255 - i) 0 := by
  unfold soFar; rw [show 256 - i = (255 - i) + 1 by omega, List.replicate_succ]
theorem soFar_end {L : List Int} (hl : L.length = 256) : soFar L 256 = L := by unfold soFar; rw [List.take_of_length_le (by omega)]; simp
theorem row_put {w : World} {g i : Nat} {cur cur' : List Int} (h : w.heap[g]? = some (.cells (nums .u8 cur).toArray 5 (0, 0))) (v : Int) (e : cur.set i v = cur') : (w.setCell ⟨g, i, none⟩ (.int .u8 v)).heap[g]? = some (.cells (nums .u8 cur').toArray 5 (0, 0)) := by
  subst e
  refine blk_put h i _ ?_
  rw [List.setIfInBounds_toArray]
  unfold nums
  rw [List.map_set]
theorem row_at {w : World} {g i : Nat} {cur : List Int} (h : w.heap[g]? = some (.cells (nums .u8 cur).toArray 5 (0, 0))) (hi : i < cur.length) : w.cell? ⟨g, i, none⟩ = some (.int .u8 (cur.getD i 0)) := by
  rw [cell_of_row w g i _ _ _ h]
  unfold nums
  rw [List.getElem?_toArray, List.getElem?_map, List.getElem?_eq_getElem hi, List.getD_eq_getElem?_getD, List.getElem?_eq_getElem hi]
  rfl
theorem mid_set (us bs : List Int) (u v : Int) (i : Nat) (h : us.length = i) : (us ++ u :: bs).set i v = us ++ v :: bs := by
  rw [List.set_append_right _ _ (by omega), h, Nat.sub_self]; rfl
set_option maxRecDepth 100000 in
set_option maxHeartbeats 6400000 in
theorem rlay_no (B : Int) (f t a : Int) (xs ys : List Int) (A1 A2 : Option Addr) (n1 c1 n2 c2 : Nat) (w : World) (HH1 : ReadsInt w .u8 A1 n1 xs) (HH2 : ReadsInt w .u8 A2 n2 ys) (hm : mayP f t a = false) (hn : n1 ≤ 140737488355327 ∧ n2 ≤ 140737488355327) {LL : List Int} (hL : layL f t a xs ys = LL) :
    Calls Try.prog 24 #[.agg #[.int .u64 B, .int .i64 f, .int .i64 t, .int .i64 a], .slice A1 n1 c1, .slice A2 n2 c2] w fun e w' => ∃ g, e = .returned (.slice (some ⟨g, 0, none⟩) 256 256) ∧ w'.heap[g]? = some (.cells (nums .u8 LL).toArray 5 (0, 0)) ∧ w.heap.size ≤ g ∧ Below w.heap.size w w' := by
  obtain ⟨w1, hw1, b1, f1, s1⟩ := made w #[.int .u64 B, .int .i64 f, .int .i64 t, .int .i64 a] 31
  obtain ⟨w2, hw2, b2, f2, s2⟩ := made w1 (madeCells #[.int .u8 0] 256) 5
  have hmk : ∀ W : World, (Instr.makeSlice 40 (.int .i64 256) (.int .i64 256)).run Try.prog W = .ok (.slice (some ⟨W.heap.size, 0, none⟩) 256 256) (W.alloc (.cells (madeCells #[.int .u8 0] 256) 5)) := made8 256 (by omega)
  have hz : madeCells #[Value.int .u8 0] 256 = (nums .u8 (List.replicate 256 (0 : Int))).toArray := by kernel_rfl
  rw [hz] at f2
  have P1 := Lib.hid f1
  have B1 := Lib.hid b1
  have SP := Lib.hid (show w.heap.size < w1.heap.size by omega)
  have F2 := Lib.hid (show w2.heap[w1.heap.size]? = some (.cells (nums .u8 (soFar LL 0)).toArray 5 (0, 0)) from f2)
  have B2 := Lib.hid b2
  have H1 := Lib.hid (HH1.below b1)
  have H2 := Lib.hid (HH2.below b1)
  have HY2 := Lib.hid HH2.1
  have HN := Lib.hid hn
  have HM := Lib.hid hm
  have HLE := Lib.hid hL
  have HLL := Lib.hid (show LL.length = 256 by rw [← hL]; exact layL_len _ _ _ _ _)
  clear f1 b1 s1 f2 b2 s2 HH1 HH2 hn hm hL hz
  go_enter Try.func24, Try.ntmps24
  go_wp2_with fail
  clear hmk hw1 hw2
  go_loopw [8] (fun iv wr => ∃ i : Nat, i ≤ 256 ∧ iv = .int .i64 (i : Int) ∧ wr.heap[w1.heap.size]? = some (.cells (nums .u8 (soFar LL i)).toArray 5 (0, 0)) ∧ Below w1.heap.size w1 wr) (fun iv _ => 256 - (intOf iv).toNat)
  case atStart => exact ⟨0, by omega, rfl, F2.out, B2.out⟩
  case round =>
    obtain ⟨i, hi, rfl, hrow, hb⟩ := hrel
    have ROW := Lib.hid hrow
    have HR := Lib.hid hb
    have hn1 : n1 ≤ 140737488355327 := HN.out.1
    have hn2 : n2 ≤ 140737488355327 := HN.out.2
    clear hrow hb
    by_cases hlt : i < 256
    · have HLT := Lib.hid hlt
      clear hi
      by_cases hin : i < n1
      · skip
        obtain ⟨ad, rfl, hc⟩ := (H1.out.below HR.out).2.2 (by omega)
        have hcell := hc i hin
        obtain ⟨u, hu⟩ : ∃ u, xs.getD i 0 = u := ⟨_, rfl⟩
        rw [hu] at hcell
        have HU := Lib.hid hu
        have zc := row_at ROW.out (i := i) (by rw [soFar_len HLL.out (Nat.le_of_lt hlt)]; exact hlt)
        have zf := blk_frozen ROW.out i
        obtain ⟨w5, hw5⟩ : ∃ w5, wr.setCell ⟨w1.heap.size, i, none⟩ (.int .u8 u) = w5 := ⟨_, rfl⟩
        have R5 := Lib.hid (show w5.heap[w1.heap.size]? = some (.cells (nums .u8 (LL.take i ++ u :: List.replicate (255 - i) 0)).toArray 5 (0, 0)) by rw [← hw5]; exact row_put ROW.out u (soFar_set HLL.out hlt u))
        have P5 := Lib.hid (show w5.heap[w.heap.size]? = some (.cells #[.int .u64 B, .int .i64 f, .int .i64 t, .int .i64 a] 31) by rw [← hw5]; exact blk_far (keep_row P1.out HR.out) (Nat.ne_of_lt SP.out) _)
        have B5 := Lib.hid (show Below w1.heap.size w1 w5 by rw [← hw5]; exact HR.out.setCell (Nat.le_refl _) _)
        clear hc hu
        go_wp2_with ((with_reducible refine wpList_load_row rfl 31 (.tmp 3) rfl w.heap.size ?_ 31 _ _ _ P5.out Try.underlying31 ?_ (sizeP _ _ _ _) ?_); rfl; rfl)
        refine (rmay_any B f t a _).mono ?_; rintro e w6 ⟨rfl, hb⟩
        rw [HM.out]
        have P6 := keep_row P5.out hb
        have R6 := Lib.hid (keep_row R5.out hb)
        have B6 := Lib.hid (below_then B5.out B5.out.size hb)
        clear hcell zc zf
        have HV := Lib.hid (show LL.getD i 0 = u by rw [← HLE.out, may_no HM.out, layB_at HLT.out, HU.out])
        clear hb P6
        go_wp2_with fail
        go_roundw
        case rel => exact ⟨i + 1, HLT.out, by push_cast; rfl, by rw [← soFar_next HLL.out HLT.out, HV.out]; exact R6.out, B6.out⟩
        case measure => simp [intOf]; have := HLT.out; omega
      · skip
        obtain ⟨u, hu⟩ : ∃ u, xs.getD i 0 = u := ⟨_, rfl⟩
        have HU := Lib.hid hu
        have hu0 : u = 0 := by rw [← hu, List.getD_eq_getElem?_getD, List.getElem?_eq_none (by rw [H1.out.1]; omega)]; rfl
        obtain ⟨w5, hw5⟩ : ∃ w5, wr = w5 := ⟨_, rfl⟩
        have R5 := Lib.hid (show w5.heap[w1.heap.size]? = some (.cells (nums .u8 (LL.take i ++ u :: List.replicate (255 - i) 0)).toArray 5 (0, 0)) by rw [← hw5, hu0, ← soFar_zero HLL.out hlt]; exact ROW.out)
        have P5 := Lib.hid (show w5.heap[w.heap.size]? = some (.cells #[.int .u64 B, .int .i64 f, .int .i64 t, .int .i64 a] 31) by rw [← hw5]; exact keep_row P1.out HR.out)
        have B5 := Lib.hid (show Below w1.heap.size w1 w5 by rw [← hw5]; exact HR.out)
        clear hu
        subst hw5
        go_wp2_with ((with_reducible refine wpList_load_row rfl 31 (.tmp 3) rfl w.heap.size ?_ 31 _ _ _ P5.out Try.underlying31 ?_ (sizeP _ _ _ _) ?_); rfl; rfl)
        refine (rmay_any B f t a _).mono ?_; rintro e w6 ⟨rfl, hb⟩
        rw [HM.out]
        have P6 := keep_row P5.out hb
        have R6 := Lib.hid (keep_row R5.out hb)
        have B6 := Lib.hid (below_then B5.out B5.out.size hb)
        have HV := Lib.hid (show LL.getD i 0 = u by rw [← HLE.out, may_no HM.out, layB_at HLT.out, HU.out])
        clear hb P6
        go_wp2_with fail
        go_roundw
        case rel => exact ⟨i + 1, HLT.out, by push_cast; rfl, by rw [← soFar_next HLL.out HLT.out, HV.out]; exact R6.out, B6.out⟩
        case measure => simp [intOf]; have := HLT.out; omega
    · obtain rfl : i = 256 := by omega
      go_wp2_with fail
      go_ret
      have hr := ROW.out
      rw [soFar_end HLL.out] at hr
      exact ⟨_, rfl, hr, B1.out.size, below_then B1.out B1.out.size HR.out⟩
set_option maxRecDepth 100000 in
set_option maxHeartbeats 6400000 in
theorem rlay_may (B : Int) (F T a : Nat) (xs ys : List Int) (A1 A2 : Option Addr) (n1 c1 n2 c2 : Nat) (w : World) (HH1 : ReadsInt w .u8 A1 n1 xs) (HH2 : ReadsInt w .u8 A2 n2 ys) (hm : mayP F T a = true) (hn : n1 ≤ 140737488355327 ∧ n2 ≤ 140737488355327) {LL : List Int} (hL : layL F T a xs ys = LL) :
    Calls Try.prog 24 #[.agg #[.int .u64 B, .int .i64 (F : Int), .int .i64 (T : Int), .int .i64 (a : Int)], .slice A1 n1 c1, .slice A2 n2 c2] w fun e w' => ∃ g, e = .returned (.slice (some ⟨g, 0, none⟩) 256 256) ∧ w'.heap[g]? = some (.cells (nums .u8 LL).toArray 5 (0, 0)) ∧ w.heap.size ≤ g ∧ Below w.heap.size w w' := by
  obtain ⟨w1, hw1, b1, f1, s1⟩ := made w #[.int .u64 B, .int .i64 (F : Int), .int .i64 (T : Int), .int .i64 (a : Int)] 31
  obtain ⟨w2, hw2, b2, f2, s2⟩ := made w1 (madeCells #[.int .u8 0] 256) 5
  have hmk : ∀ W : World, (Instr.makeSlice 40 (.int .i64 256) (.int .i64 256)).run Try.prog W = .ok (.slice (some ⟨W.heap.size, 0, none⟩) 256 256) (W.alloc (.cells (madeCells #[.int .u8 0] 256) 5)) := made8 256 (by omega)
  have hz : madeCells #[Value.int .u8 0] 256 = (nums .u8 (List.replicate 256 (0 : Int))).toArray := by kernel_rfl
  rw [hz] at f2
  have P1 := Lib.hid f1
  have B1 := Lib.hid b1
  have SP := Lib.hid (show w.heap.size < w1.heap.size by omega)
  have F2 := Lib.hid (show w2.heap[w1.heap.size]? = some (.cells (nums .u8 (soFar LL 0)).toArray 5 (0, 0)) from f2)
  have B2 := Lib.hid b2
  have H1 := Lib.hid (HH1.below b1)
  have H2 := Lib.hid (HH2.below b1)
  have HY2 := Lib.hid HH2.1
  have HN := Lib.hid hn
  have HM := Lib.hid hm
  have HLE := Lib.hid hL
  have HLL := Lib.hid (show LL.length = 256 by rw [← hL]; exact layL_len _ _ _ _ _)
  clear f1 b1 s1 f2 b2 s2 HH1 HH2 hn hm hL hz
  go_enter Try.func24, Try.ntmps24
  go_wp2_with fail
  clear hmk hw1 hw2
  go_loopw [8] (fun iv wr => ∃ i : Nat, i ≤ 256 ∧ iv = .int .i64 (i : Int) ∧ wr.heap[w1.heap.size]? = some (.cells (nums .u8 (soFar LL i)).toArray 5 (0, 0)) ∧ Below w1.heap.size w1 wr) (fun iv _ => 256 - (intOf iv).toNat)
  case atStart => exact ⟨0, by omega, rfl, F2.out, B2.out⟩
  case round =>
    obtain ⟨i, hi, rfl, hrow, hb⟩ := hrel
    have ROW := Lib.hid hrow
    have HR := Lib.hid hb
    have hn1 : n1 ≤ 140737488355327 := HN.out.1
    have hn2 : n2 ≤ 140737488355327 := HN.out.2
    clear hrow hb
    by_cases hlt : i < 256
    · have HLT := Lib.hid hlt
      clear hi
      by_cases hin : i < n1
      · skip
        by_cases hF : i < F
        · skip
          obtain ⟨ad, rfl, hc⟩ := (H1.out.below HR.out).2.2 (by omega)
          have hcell := hc i hin
          obtain ⟨u, hu⟩ : ∃ u, xs.getD i 0 = u := ⟨_, rfl⟩
          rw [hu] at hcell
          have HU := Lib.hid hu
          have zc := row_at ROW.out (i := i) (by rw [soFar_len HLL.out (Nat.le_of_lt hlt)]; exact hlt)
          have zf := blk_frozen ROW.out i
          obtain ⟨w5, hw5⟩ : ∃ w5, wr.setCell ⟨w1.heap.size, i, none⟩ (.int .u8 u) = w5 := ⟨_, rfl⟩
          have R5 := Lib.hid (show w5.heap[w1.heap.size]? = some (.cells (nums .u8 (LL.take i ++ u :: List.replicate (255 - i) 0)).toArray 5 (0, 0)) by rw [← hw5]; exact row_put ROW.out u (soFar_set HLL.out hlt u))
          have P5 := Lib.hid (show w5.heap[w.heap.size]? = some (.cells #[.int .u64 B, .int .i64 (F : Int), .int .i64 (T : Int), .int .i64 (a : Int)] 31) by rw [← hw5]; exact blk_far (keep_row P1.out HR.out) (Nat.ne_of_lt SP.out) _)
          have B5 := Lib.hid (show Below w1.heap.size w1 w5 by rw [← hw5]; exact HR.out.setCell (Nat.le_refl _) _)
          clear hc hu
          go_wp2_with ((with_reducible refine wpList_load_row rfl 31 (.tmp 3) rfl w.heap.size ?_ 31 _ _ _ P5.out Try.underlying31 ?_ (sizeP _ _ _ _) ?_); rfl; rfl)
          refine (rmay_any B F T a _).mono ?_; rintro e w6 ⟨rfl, hb⟩
          rw [HM.out]
          have P6 := keep_row P5.out hb
          have R6 := Lib.hid (keep_row R5.out hb)
          have B6 := Lib.hid (below_then B5.out B5.out.size hb)
          clear hcell zc zf
          have c1 := cell_row P6 (i := 1) (v := .int .i64 (F : Int)) rfl
          have c2 := cell_row P6 (i := 2) (v := .int .i64 (T : Int)) rfl
          have c3 := cell_row P6 (i := 3) (v := .int .i64 (a : Int)) rfl
          have d1 : decide ((i : Int) < (F : Int)) = true := decide_eq_true (by omega)
          have HV := Lib.hid (show LL.getD i 0 = u by rw [← HLE.out, layL_at HM.out HLT.out]; unfold layV; rw [if_neg (by omega), HU.out])
          clear hb P6 c3
          go_wp2_with fail
          go_roundw
          case rel => exact ⟨i + 1, HLT.out, by push_cast; rfl, by rw [← soFar_next HLL.out HLT.out, HV.out]; exact R6.out, B6.out⟩
          case measure => simp [intOf]; have := HLT.out; omega
        · by_cases hT : T ≤ i
          · skip
            obtain ⟨ad, rfl, hc⟩ := (H1.out.below HR.out).2.2 (by omega)
            have hcell := hc i hin
            obtain ⟨u, hu⟩ : ∃ u, xs.getD i 0 = u := ⟨_, rfl⟩
            rw [hu] at hcell
            have HU := Lib.hid hu
            have zc := row_at ROW.out (i := i) (by rw [soFar_len HLL.out (Nat.le_of_lt hlt)]; exact hlt)
            have zf := blk_frozen ROW.out i
            obtain ⟨w5, hw5⟩ : ∃ w5, wr.setCell ⟨w1.heap.size, i, none⟩ (.int .u8 u) = w5 := ⟨_, rfl⟩
            have R5 := Lib.hid (show w5.heap[w1.heap.size]? = some (.cells (nums .u8 (LL.take i ++ u :: List.replicate (255 - i) 0)).toArray 5 (0, 0)) by rw [← hw5]; exact row_put ROW.out u (soFar_set HLL.out hlt u))
            have P5 := Lib.hid (show w5.heap[w.heap.size]? = some (.cells #[.int .u64 B, .int .i64 (F : Int), .int .i64 (T : Int), .int .i64 (a : Int)] 31) by rw [← hw5]; exact blk_far (keep_row P1.out HR.out) (Nat.ne_of_lt SP.out) _)
            have B5 := Lib.hid (show Below w1.heap.size w1 w5 by rw [← hw5]; exact HR.out.setCell (Nat.le_refl _) _)
            clear hc hu
            go_wp2_with ((with_reducible refine wpList_load_row rfl 31 (.tmp 3) rfl w.heap.size ?_ 31 _ _ _ P5.out Try.underlying31 ?_ (sizeP _ _ _ _) ?_); rfl; rfl)
            refine (rmay_any B F T a _).mono ?_; rintro e w6 ⟨rfl, hb⟩
            rw [HM.out]
            have P6 := keep_row P5.out hb
            have R6 := Lib.hid (keep_row R5.out hb)
            have B6 := Lib.hid (below_then B5.out B5.out.size hb)
            clear hcell zc zf
            have c1 := cell_row P6 (i := 1) (v := .int .i64 (F : Int)) rfl
            have c2 := cell_row P6 (i := 2) (v := .int .i64 (T : Int)) rfl
            have c3 := cell_row P6 (i := 3) (v := .int .i64 (a : Int)) rfl
            have d1 : decide ((i : Int) < (F : Int)) = false := decide_eq_false (by omega)
            have d1' : decide (i < F) = false := decide_eq_false (by omega)
            have d2 : decide ((T : Int) ≤ (i : Int)) = true := decide_eq_true (by omega)
            have d2' : decide (T ≤ i) = true := decide_eq_true (by omega)
            have HV := Lib.hid (show LL.getD i 0 = u by rw [← HLE.out, layL_at HM.out HLT.out]; unfold layV; rw [if_neg (by omega), HU.out])
            clear hb P6 c3
            go_wp2_with fail
            go_roundw
            case rel => exact ⟨i + 1, HLT.out, by push_cast; rfl, by rw [← soFar_next HLL.out HLT.out, HV.out]; exact R6.out, B6.out⟩
            case measure => simp [intOf]; have := HLT.out; omega
          · by_cases hK0 : i - F < n2
            · by_cases ha : a < n2 - (i - F)
              · skip
                obtain ⟨ad, rfl, hc⟩ := (H1.out.below HR.out).2.2 (by omega)
                have hcell := hc i hin
                obtain ⟨u, hu⟩ : ∃ u, xs.getD i 0 = u := ⟨_, rfl⟩
                rw [hu] at hcell
                have HU := Lib.hid hu
                have zc := row_at ROW.out (i := i) (by rw [soFar_len HLL.out (Nat.le_of_lt hlt)]; exact hlt)
                have zf := blk_frozen ROW.out i
                obtain ⟨w5, hw5⟩ : ∃ w5, wr.setCell ⟨w1.heap.size, i, none⟩ (.int .u8 u) = w5 := ⟨_, rfl⟩
                have R5 := Lib.hid (show w5.heap[w1.heap.size]? = some (.cells (nums .u8 (LL.take i ++ u :: List.replicate (255 - i) 0)).toArray 5 (0, 0)) by rw [← hw5]; exact row_put ROW.out u (soFar_set HLL.out hlt u))
                have P5 := Lib.hid (show w5.heap[w.heap.size]? = some (.cells #[.int .u64 B, .int .i64 (F : Int), .int .i64 (T : Int), .int .i64 (a : Int)] 31) by rw [← hw5]; exact blk_far (keep_row P1.out HR.out) (Nat.ne_of_lt SP.out) _)
                have B5 := Lib.hid (show Below w1.heap.size w1 w5 by rw [← hw5]; exact HR.out.setCell (Nat.le_refl _) _)
                clear hc hu
                go_wp2_with ((with_reducible refine wpList_load_row rfl 31 (.tmp 3) rfl w.heap.size ?_ 31 _ _ _ P5.out Try.underlying31 ?_ (sizeP _ _ _ _) ?_); rfl; rfl)
                refine (rmay_any B F T a _).mono ?_; rintro e w6 ⟨rfl, hb⟩
                rw [HM.out]
                have P6 := keep_row P5.out hb
                have R6 := Lib.hid (keep_row R5.out hb)
                have B6 := Lib.hid (below_then B5.out B5.out.size hb)
                clear hcell zc zf
                have c1 := cell_row P6 (i := 1) (v := .int .i64 (F : Int)) rfl
                have c2 := cell_row P6 (i := 2) (v := .int .i64 (T : Int)) rfl
                have c3 := cell_row P6 (i := 3) (v := .int .i64 (a : Int)) rfl
                have d1 : decide ((i : Int) < (F : Int)) = false := decide_eq_false (by omega)
                have d1' : decide (i < F) = false := decide_eq_false (by omega)
                have d2 : decide ((T : Int) ≤ (i : Int)) = false := decide_eq_false (by omega)
                have d2' : decide (T ≤ i) = false := decide_eq_false (by omega)
                obtain ⟨K, hK⟩ : ∃ K, i - F = K := ⟨_, rfl⟩
                have hK2 : (i : Int) - (F : Int) = (K : Int) := by omega
                have hK3 : K < 256 := by omega
                have d3 : decide ((K : Int) < (n2 : Int)) = true := decide_eq_true (by omega)
                have d3' : decide (K < n2) = true := decide_eq_true (by omega)
                have d4 : decide ((a : Int) < (n2 : Int) - (K : Int)) = true := decide_eq_true (by omega)
                obtain ⟨X, hX⟩ : ∃ X, a + K = X := ⟨_, rfl⟩
                have hX2 : (a : Int) + (K : Int) = (X : Int) := by omega
                have hX3 : X < n2 := by omega
                have hX4 : (X : Int) < (n2 : Int) := by omega
                obtain ⟨ad2, rfl, hc2⟩ := ((H2.out.below B5.out).below hb).2.2 (by omega)
                have hcell2 := hc2 X hX3
                obtain ⟨v, hv⟩ : ∃ v, ys.getD X 0 = v := ⟨_, rfl⟩
                rw [hv] at hcell2
                have HV := Lib.hid (show LL.getD i 0 = v by rw [← HLE.out, layL_at HM.out HLT.out]; unfold layV; rw [if_pos (by rw [HY2.out]; omega), hK, hX, hv])
                have hlc : (LL.take i ++ u :: List.replicate (255 - i) 0).length = 256 := by rw [← soFar_set HLL.out HLT.out u, List.length_set, soFar_len HLL.out (Nat.le_of_lt HLT.out)]
                have yc := row_at R6.out (i := i) (by rw [hlc]; exact HLT.out)
                have yf := blk_frozen R6.out i
                obtain ⟨w7, hw7⟩ : ∃ w7, w6.setCell ⟨w1.heap.size, i, none⟩ (.int .u8 v) = w7 := ⟨_, rfl⟩
                have R7 := Lib.hid (show w7.heap[w1.heap.size]? = some (.cells (nums .u8 (LL.take i ++ v :: List.replicate (255 - i) 0)).toArray 5 (0, 0)) by rw [← hw7]; exact row_put R6.out v (mid_set _ _ _ _ _ (by rw [List.length_take, HLL.out]; have := HLT.out; omega)))
                have B7 := Lib.hid (show Below w1.heap.size w1 w7 by rw [← hw7]; exact B6.out.setCell (Nat.le_refl _) _)
                clear hb P6 hK hX hc2 hv hlc
                go_wp2_with fail
                go_roundw
                case rel => exact ⟨i + 1, HLT.out, by push_cast; rfl, by rw [← soFar_next HLL.out HLT.out, HV.out]; exact R7.out, B7.out⟩
                case measure => simp [intOf]; have := HLT.out; omega
              · skip
                obtain ⟨ad, rfl, hc⟩ := (H1.out.below HR.out).2.2 (by omega)
                have hcell := hc i hin
                obtain ⟨u, hu⟩ : ∃ u, xs.getD i 0 = u := ⟨_, rfl⟩
                rw [hu] at hcell
                have HU := Lib.hid hu
                have zc := row_at ROW.out (i := i) (by rw [soFar_len HLL.out (Nat.le_of_lt hlt)]; exact hlt)
                have zf := blk_frozen ROW.out i
                obtain ⟨w5, hw5⟩ : ∃ w5, wr.setCell ⟨w1.heap.size, i, none⟩ (.int .u8 u) = w5 := ⟨_, rfl⟩
                have R5 := Lib.hid (show w5.heap[w1.heap.size]? = some (.cells (nums .u8 (LL.take i ++ u :: List.replicate (255 - i) 0)).toArray 5 (0, 0)) by rw [← hw5]; exact row_put ROW.out u (soFar_set HLL.out hlt u))
                have P5 := Lib.hid (show w5.heap[w.heap.size]? = some (.cells #[.int .u64 B, .int .i64 (F : Int), .int .i64 (T : Int), .int .i64 (a : Int)] 31) by rw [← hw5]; exact blk_far (keep_row P1.out HR.out) (Nat.ne_of_lt SP.out) _)
                have B5 := Lib.hid (show Below w1.heap.size w1 w5 by rw [← hw5]; exact HR.out.setCell (Nat.le_refl _) _)
                clear hc hu
                go_wp2_with ((with_reducible refine wpList_load_row rfl 31 (.tmp 3) rfl w.heap.size ?_ 31 _ _ _ P5.out Try.underlying31 ?_ (sizeP _ _ _ _) ?_); rfl; rfl)
                refine (rmay_any B F T a _).mono ?_; rintro e w6 ⟨rfl, hb⟩
                rw [HM.out]
                have P6 := keep_row P5.out hb
                have R6 := Lib.hid (keep_row R5.out hb)
                have B6 := Lib.hid (below_then B5.out B5.out.size hb)
                clear hcell zc zf
                have c1 := cell_row P6 (i := 1) (v := .int .i64 (F : Int)) rfl
                have c2 := cell_row P6 (i := 2) (v := .int .i64 (T : Int)) rfl
                have c3 := cell_row P6 (i := 3) (v := .int .i64 (a : Int)) rfl
                have d1 : decide ((i : Int) < (F : Int)) = false := decide_eq_false (by omega)
                have d1' : decide (i < F) = false := decide_eq_false (by omega)
                have d2 : decide ((T : Int) ≤ (i : Int)) = false := decide_eq_false (by omega)
                have d2' : decide (T ≤ i) = false := decide_eq_false (by omega)
                obtain ⟨K, hK⟩ : ∃ K, i - F = K := ⟨_, rfl⟩
                have hK2 : (i : Int) - (F : Int) = (K : Int) := by omega
                have hK3 : K < 256 := by omega
                have d3 : decide ((K : Int) < (n2 : Int)) = true := decide_eq_true (by omega)
                have d3' : decide (K < n2) = true := decide_eq_true (by omega)
                have d4 : decide ((a : Int) < (n2 : Int) - (K : Int)) = false := decide_eq_false (by omega)
                have HV := Lib.hid (show LL.getD i 0 = u by rw [← HLE.out, layL_at HM.out HLT.out]; unfold layV; rw [if_neg (by rw [HY2.out]; omega), HU.out])
                clear hb P6 hK
                go_wp2_with fail
                go_roundw
                case rel => exact ⟨i + 1, HLT.out, by push_cast; rfl, by rw [← soFar_next HLL.out HLT.out, HV.out]; exact R6.out, B6.out⟩
                case measure => simp [intOf]; have := HLT.out; omega
            · skip
              obtain ⟨ad, rfl, hc⟩ := (H1.out.below HR.out).2.2 (by omega)
              have hcell := hc i hin
              obtain ⟨u, hu⟩ : ∃ u, xs.getD i 0 = u := ⟨_, rfl⟩
              rw [hu] at hcell
              have HU := Lib.hid hu
              have zc := row_at ROW.out (i := i) (by rw [soFar_len HLL.out (Nat.le_of_lt hlt)]; exact hlt)
              have zf := blk_frozen ROW.out i
              obtain ⟨w5, hw5⟩ : ∃ w5, wr.setCell ⟨w1.heap.size, i, none⟩ (.int .u8 u) = w5 := ⟨_, rfl⟩
              have R5 := Lib.hid (show w5.heap[w1.heap.size]? = some (.cells (nums .u8 (LL.take i ++ u :: List.replicate (255 - i) 0)).toArray 5 (0, 0)) by rw [← hw5]; exact row_put ROW.out u (soFar_set HLL.out hlt u))
              have P5 := Lib.hid (show w5.heap[w.heap.size]? = some (.cells #[.int .u64 B, .int .i64 (F : Int), .int .i64 (T : Int), .int .i64 (a : Int)] 31) by rw [← hw5]; exact blk_far (keep_row P1.out HR.out) (Nat.ne_of_lt SP.out) _)
              have B5 := Lib.hid (show Below w1.heap.size w1 w5 by rw [← hw5]; exact HR.out.setCell (Nat.le_refl _) _)
              clear hc hu
              go_wp2_with ((with_reducible refine wpList_load_row rfl 31 (.tmp 3) rfl w.heap.size ?_ 31 _ _ _ P5.out Try.underlying31 ?_ (sizeP _ _ _ _) ?_); rfl; rfl)
              refine (rmay_any B F T a _).mono ?_; rintro e w6 ⟨rfl, hb⟩
              rw [HM.out]
              have P6 := keep_row P5.out hb
              have R6 := Lib.hid (keep_row R5.out hb)
              have B6 := Lib.hid (below_then B5.out B5.out.size hb)
              clear hcell zc zf
              have c1 := cell_row P6 (i := 1) (v := .int .i64 (F : Int)) rfl
              have c2 := cell_row P6 (i := 2) (v := .int .i64 (T : Int)) rfl
              have c3 := cell_row P6 (i := 3) (v := .int .i64 (a : Int)) rfl
              have d1 : decide ((i : Int) < (F : Int)) = false := decide_eq_false (by omega)
              have d1' : decide (i < F) = false := decide_eq_false (by omega)
              have d2 : decide ((T : Int) ≤ (i : Int)) = false := decide_eq_false (by omega)
              have d2' : decide (T ≤ i) = false := decide_eq_false (by omega)
              obtain ⟨K, hK⟩ : ∃ K, i - F = K := ⟨_, rfl⟩
              have hK2 : (i : Int) - (F : Int) = (K : Int) := by omega
              have hK3 : K < 256 := by omega
              have d3 : decide ((K : Int) < (n2 : Int)) = false := decide_eq_false (by omega)
              have d3' : decide (K < n2) = false := decide_eq_false (by omega)
              have HV := Lib.hid (show LL.getD i 0 = u by rw [← HLE.out, layL_at HM.out HLT.out]; unfold layV; rw [if_neg (by rw [HY2.out]; omega), HU.out])
              clear hb P6 hK
              go_wp2_with fail
              go_roundw
              case rel => exact ⟨i + 1, HLT.out, by push_cast; rfl, by rw [← soFar_next HLL.out HLT.out, HV.out]; exact R6.out, B6.out⟩
              case measure => simp [intOf]; have := HLT.out; omega
      · skip
        by_cases hF : i < F
        · skip
          obtain ⟨u, hu⟩ : ∃ u, xs.getD i 0 = u := ⟨_, rfl⟩
          have HU := Lib.hid hu
          have hu0 : u = 0 := by rw [← hu, List.getD_eq_getElem?_getD, List.getElem?_eq_none (by rw [H1.out.1]; omega)]; rfl
          obtain ⟨w5, hw5⟩ : ∃ w5, wr = w5 := ⟨_, rfl⟩
          have R5 := Lib.hid (show w5.heap[w1.heap.size]? = some (.cells (nums .u8 (LL.take i ++ u :: List.replicate (255 - i) 0)).toArray 5 (0, 0)) by rw [← hw5, hu0, ← soFar_zero HLL.out hlt]; exact ROW.out)
          have P5 := Lib.hid (show w5.heap[w.heap.size]? = some (.cells #[.int .u64 B, .int .i64 (F : Int), .int .i64 (T : Int), .int .i64 (a : Int)] 31) by rw [← hw5]; exact keep_row P1.out HR.out)
          have B5 := Lib.hid (show Below w1.heap.size w1 w5 by rw [← hw5]; exact HR.out)
          clear hu
          subst hw5
          go_wp2_with ((with_reducible refine wpList_load_row rfl 31 (.tmp 3) rfl w.heap.size ?_ 31 _ _ _ P5.out Try.underlying31 ?_ (sizeP _ _ _ _) ?_); rfl; rfl)
          refine (rmay_any B F T a _).mono ?_; rintro e w6 ⟨rfl, hb⟩
          rw [HM.out]
          have P6 := keep_row P5.out hb
          have R6 := Lib.hid (keep_row R5.out hb)
          have B6 := Lib.hid (below_then B5.out B5.out.size hb)
          have c1 := cell_row P6 (i := 1) (v := .int .i64 (F : Int)) rfl
          have c2 := cell_row P6 (i := 2) (v := .int .i64 (T : Int)) rfl
          have c3 := cell_row P6 (i := 3) (v := .int .i64 (a : Int)) rfl
          have d1 : decide ((i : Int) < (F : Int)) = true := decide_eq_true (by omega)
          have HV := Lib.hid (show LL.getD i 0 = u by rw [← HLE.out, layL_at HM.out HLT.out]; unfold layV; rw [if_neg (by omega), HU.out])
          clear hb P6 c3
          go_wp2_with fail
          go_roundw
          case rel => exact ⟨i + 1, HLT.out, by push_cast; rfl, by rw [← soFar_next HLL.out HLT.out, HV.out]; exact R6.out, B6.out⟩
          case measure => simp [intOf]; have := HLT.out; omega
        · by_cases hT : T ≤ i
          · skip
            obtain ⟨u, hu⟩ : ∃ u, xs.getD i 0 = u := ⟨_, rfl⟩
            have HU := Lib.hid hu
            have hu0 : u = 0 := by rw [← hu, List.getD_eq_getElem?_getD, List.getElem?_eq_none (by rw [H1.out.1]; omega)]; rfl
            obtain ⟨w5, hw5⟩ : ∃ w5, wr = w5 := ⟨_, rfl⟩
            have R5 := Lib.hid (show w5.heap[w1.heap.size]? = some (.cells (nums .u8 (LL.take i ++ u :: List.replicate (255 - i) 0)).toArray 5 (0, 0)) by rw [← hw5, hu0, ← soFar_zero HLL.out hlt]; exact ROW.out)
            have P5 := Lib.hid (show w5.heap[w.heap.size]? = some (.cells #[.int .u64 B, .int .i64 (F : Int), .int .i64 (T : Int), .int .i64 (a : Int)] 31) by rw [← hw5]; exact keep_row P1.out HR.out)
            have B5 := Lib.hid (show Below w1.heap.size w1 w5 by rw [← hw5]; exact HR.out)
            clear hu
            subst hw5
            go_wp2_with ((with_reducible refine wpList_load_row rfl 31 (.tmp 3) rfl w.heap.size ?_ 31 _ _ _ P5.out Try.underlying31 ?_ (sizeP _ _ _ _) ?_); rfl; rfl)
            refine (rmay_any B F T a _).mono ?_; rintro e w6 ⟨rfl, hb⟩
            rw [HM.out]
            have P6 := keep_row P5.out hb
            have R6 := Lib.hid (keep_row R5.out hb)
            have B6 := Lib.hid (below_then B5.out B5.out.size hb)
            have c1 := cell_row P6 (i := 1) (v := .int .i64 (F : Int)) rfl
            have c2 := cell_row P6 (i := 2) (v := .int .i64 (T : Int)) rfl
            have c3 := cell_row P6 (i := 3) (v := .int .i64 (a : Int)) rfl
            have d1 : decide ((i : Int) < (F : Int)) = false := decide_eq_false (by omega)
            have d1' : decide (i < F) = false := decide_eq_false (by omega)
            have d2 : decide ((T : Int) ≤ (i : Int)) = true := decide_eq_true (by omega)
            have d2' : decide (T ≤ i) = true := decide_eq_true (by omega)
            have HV := Lib.hid (show LL.getD i 0 = u by rw [← HLE.out, layL_at HM.out HLT.out]; unfold layV; rw [if_neg (by omega), HU.out])
            clear hb P6 c3
            go_wp2_with fail
            go_roundw
            case rel => exact ⟨i + 1, HLT.out, by push_cast; rfl, by rw [← soFar_next HLL.out HLT.out, HV.out]; exact R6.out, B6.out⟩
            case measure => simp [intOf]; have := HLT.out; omega
          · by_cases hK0 : i - F < n2
            · by_cases ha : a < n2 - (i - F)
              · skip
                obtain ⟨u, hu⟩ : ∃ u, xs.getD i 0 = u := ⟨_, rfl⟩
                have HU := Lib.hid hu
                have hu0 : u = 0 := by rw [← hu, List.getD_eq_getElem?_getD, List.getElem?_eq_none (by rw [H1.out.1]; omega)]; rfl
                obtain ⟨w5, hw5⟩ : ∃ w5, wr = w5 := ⟨_, rfl⟩
                have R5 := Lib.hid (show w5.heap[w1.heap.size]? = some (.cells (nums .u8 (LL.take i ++ u :: List.replicate (255 - i) 0)).toArray 5 (0, 0)) by rw [← hw5, hu0, ← soFar_zero HLL.out hlt]; exact ROW.out)
                have P5 := Lib.hid (show w5.heap[w.heap.size]? = some (.cells #[.int .u64 B, .int .i64 (F : Int), .int .i64 (T : Int), .int .i64 (a : Int)] 31) by rw [← hw5]; exact keep_row P1.out HR.out)
                have B5 := Lib.hid (show Below w1.heap.size w1 w5 by rw [← hw5]; exact HR.out)
                clear hu
                subst hw5
                go_wp2_with ((with_reducible refine wpList_load_row rfl 31 (.tmp 3) rfl w.heap.size ?_ 31 _ _ _ P5.out Try.underlying31 ?_ (sizeP _ _ _ _) ?_); rfl; rfl)
                refine (rmay_any B F T a _).mono ?_; rintro e w6 ⟨rfl, hb⟩
                rw [HM.out]
                have P6 := keep_row P5.out hb
                have R6 := Lib.hid (keep_row R5.out hb)
                have B6 := Lib.hid (below_then B5.out B5.out.size hb)
                have c1 := cell_row P6 (i := 1) (v := .int .i64 (F : Int)) rfl
                have c2 := cell_row P6 (i := 2) (v := .int .i64 (T : Int)) rfl
                have c3 := cell_row P6 (i := 3) (v := .int .i64 (a : Int)) rfl
                have d1 : decide ((i : Int) < (F : Int)) = false := decide_eq_false (by omega)
                have d1' : decide (i < F) = false := decide_eq_false (by omega)
                have d2 : decide ((T : Int) ≤ (i : Int)) = false := decide_eq_false (by omega)
                have d2' : decide (T ≤ i) = false := decide_eq_false (by omega)
                obtain ⟨K, hK⟩ : ∃ K, i - F = K := ⟨_, rfl⟩
                have hK2 : (i : Int) - (F : Int) = (K : Int) := by omega
                have hK3 : K < 256 := by omega
                have d3 : decide ((K : Int) < (n2 : Int)) = true := decide_eq_true (by omega)
                have d3' : decide (K < n2) = true := decide_eq_true (by omega)
                have d4 : decide ((a : Int) < (n2 : Int) - (K : Int)) = true := decide_eq_true (by omega)
                obtain ⟨X, hX⟩ : ∃ X, a + K = X := ⟨_, rfl⟩
                have hX2 : (a : Int) + (K : Int) = (X : Int) := by omega
                have hX3 : X < n2 := by omega
                have hX4 : (X : Int) < (n2 : Int) := by omega
                obtain ⟨ad2, rfl, hc2⟩ := ((H2.out.below B5.out).below hb).2.2 (by omega)
                have hcell2 := hc2 X hX3
                obtain ⟨v, hv⟩ : ∃ v, ys.getD X 0 = v := ⟨_, rfl⟩
                rw [hv] at hcell2
                have HV := Lib.hid (show LL.getD i 0 = v by rw [← HLE.out, layL_at HM.out HLT.out]; unfold layV; rw [if_pos (by rw [HY2.out]; omega), hK, hX, hv])
                have hlc : (LL.take i ++ u :: List.replicate (255 - i) 0).length = 256 := by rw [← soFar_set HLL.out HLT.out u, List.length_set, soFar_len HLL.out (Nat.le_of_lt HLT.out)]
                have yc := row_at R6.out (i := i) (by rw [hlc]; exact HLT.out)
                have yf := blk_frozen R6.out i
                obtain ⟨w7, hw7⟩ : ∃ w7, w6.setCell ⟨w1.heap.size, i, none⟩ (.int .u8 v) = w7 := ⟨_, rfl⟩
                have R7 := Lib.hid (show w7.heap[w1.heap.size]? = some (.cells (nums .u8 (LL.take i ++ v :: List.replicate (255 - i) 0)).toArray 5 (0, 0)) by rw [← hw7]; exact row_put R6.out v (mid_set _ _ _ _ _ (by rw [List.length_take, HLL.out]; have := HLT.out; omega)))
                have B7 := Lib.hid (show Below w1.heap.size w1 w7 by rw [← hw7]; exact B6.out.setCell (Nat.le_refl _) _)
                clear hb P6 hK hX hc2 hv hlc
                go_wp2_with fail
                go_roundw
                case rel => exact ⟨i + 1, HLT.out, by push_cast; rfl, by rw [← soFar_next HLL.out HLT.out, HV.out]; exact R7.out, B7.out⟩
                case measure => simp [intOf]; have := HLT.out; omega
              · skip
                obtain ⟨u, hu⟩ : ∃ u, xs.getD i 0 = u := ⟨_, rfl⟩
                have HU := Lib.hid hu
                have hu0 : u = 0 := by rw [← hu, List.getD_eq_getElem?_getD, List.getElem?_eq_none (by rw [H1.out.1]; omega)]; rfl
                obtain ⟨w5, hw5⟩ : ∃ w5, wr = w5 := ⟨_, rfl⟩
                have R5 := Lib.hid (show w5.heap[w1.heap.size]? = some (.cells (nums .u8 (LL.take i ++ u :: List.replicate (255 - i) 0)).toArray 5 (0, 0)) by rw [← hw5, hu0, ← soFar_zero HLL.out hlt]; exact ROW.out)
                have P5 := Lib.hid (show w5.heap[w.heap.size]? = some (.cells #[.int .u64 B, .int .i64 (F : Int), .int .i64 (T : Int), .int .i64 (a : Int)] 31) by rw [← hw5]; exact keep_row P1.out HR.out)
                have B5 := Lib.hid (show Below w1.heap.size w1 w5 by rw [← hw5]; exact HR.out)
                clear hu
                subst hw5
                go_wp2_with ((with_reducible refine wpList_load_row rfl 31 (.tmp 3) rfl w.heap.size ?_ 31 _ _ _ P5.out Try.underlying31 ?_ (sizeP _ _ _ _) ?_); rfl; rfl)
                refine (rmay_any B F T a _).mono ?_; rintro e w6 ⟨rfl, hb⟩
                rw [HM.out]
                have P6 := keep_row P5.out hb
                have R6 := Lib.hid (keep_row R5.out hb)
                have B6 := Lib.hid (below_then B5.out B5.out.size hb)
                have c1 := cell_row P6 (i := 1) (v := .int .i64 (F : Int)) rfl
                have c2 := cell_row P6 (i := 2) (v := .int .i64 (T : Int)) rfl
                have c3 := cell_row P6 (i := 3) (v := .int .i64 (a : Int)) rfl
                have d1 : decide ((i : Int) < (F : Int)) = false := decide_eq_false (by omega)
                have d1' : decide (i < F) = false := decide_eq_false (by omega)
                have d2 : decide ((T : Int) ≤ (i : Int)) = false := decide_eq_false (by omega)
                have d2' : decide (T ≤ i) = false := decide_eq_false (by omega)
                obtain ⟨K, hK⟩ : ∃ K, i - F = K := ⟨_, rfl⟩
                have hK2 : (i : Int) - (F : Int) = (K : Int) := by omega
                have hK3 : K < 256 := by omega
                have d3 : decide ((K : Int) < (n2 : Int)) = true := decide_eq_true (by omega)
                have d3' : decide (K < n2) = true := decide_eq_true (by omega)
                have d4 : decide ((a : Int) < (n2 : Int) - (K : Int)) = false := decide_eq_false (by omega)
                have HV := Lib.hid (show LL.getD i 0 = u by rw [← HLE.out, layL_at HM.out HLT.out]; unfold layV; rw [if_neg (by rw [HY2.out]; omega), HU.out])
                clear hb P6 hK
                go_wp2_with fail
                go_roundw
                case rel => exact ⟨i + 1, HLT.out, by push_cast; rfl, by rw [← soFar_next HLL.out HLT.out, HV.out]; exact R6.out, B6.out⟩
                case measure => simp [intOf]; have := HLT.out; omega
            · skip
              obtain ⟨u, hu⟩ : ∃ u, xs.getD i 0 = u := ⟨_, rfl⟩
              have HU := Lib.hid hu
              have hu0 : u = 0 := by rw [← hu, List.getD_eq_getElem?_getD, List.getElem?_eq_none (by rw [H1.out.1]; omega)]; rfl
              obtain ⟨w5, hw5⟩ : ∃ w5, wr = w5 := ⟨_, rfl⟩
              have R5 := Lib.hid (show w5.heap[w1.heap.size]? = some (.cells (nums .u8 (LL.take i ++ u :: List.replicate (255 - i) 0)).toArray 5 (0, 0)) by rw [← hw5, hu0, ← soFar_zero HLL.out hlt]; exact ROW.out)
              have P5 := Lib.hid (show w5.heap[w.heap.size]? = some (.cells #[.int .u64 B, .int .i64 (F : Int), .int .i64 (T : Int), .int .i64 (a : Int)] 31) by rw [← hw5]; exact keep_row P1.out HR.out)
              have B5 := Lib.hid (show Below w1.heap.size w1 w5 by rw [← hw5]; exact HR.out)
              clear hu
              subst hw5
              go_wp2_with ((with_reducible refine wpList_load_row rfl 31 (.tmp 3) rfl w.heap.size ?_ 31 _ _ _ P5.out Try.underlying31 ?_ (sizeP _ _ _ _) ?_); rfl; rfl)
              refine (rmay_any B F T a _).mono ?_; rintro e w6 ⟨rfl, hb⟩
              rw [HM.out]
              have P6 := keep_row P5.out hb
              have R6 := Lib.hid (keep_row R5.out hb)
              have B6 := Lib.hid (below_then B5.out B5.out.size hb)
              have c1 := cell_row P6 (i := 1) (v := .int .i64 (F : Int)) rfl
              have c2 := cell_row P6 (i := 2) (v := .int .i64 (T : Int)) rfl
              have c3 := cell_row P6 (i := 3) (v := .int .i64 (a : Int)) rfl
              have d1 : decide ((i : Int) < (F : Int)) = false := decide_eq_false (by omega)
              have d1' : decide (i < F) = false := decide_eq_false (by omega)
              have d2 : decide ((T : Int) ≤ (i : Int)) = false := decide_eq_false (by omega)
              have d2' : decide (T ≤ i) = false := decide_eq_false (by omega)
              obtain ⟨K, hK⟩ : ∃ K, i - F = K := ⟨_, rfl⟩
              have hK2 : (i : Int) - (F : Int) = (K : Int) := by omega
              have hK3 : K < 256 := by omega
              have d3 : decide ((K : Int) < (n2 : Int)) = false := decide_eq_false (by omega)
              have d3' : decide (K < n2) = false := decide_eq_false (by omega)
              have HV := Lib.hid (show LL.getD i 0 = u by rw [← HLE.out, layL_at HM.out HLT.out]; unfold layV; rw [if_neg (by rw [HY2.out]; omega), HU.out])
              clear hb P6 hK
              go_wp2_with fail
              go_roundw
              case rel => exact ⟨i + 1, HLT.out, by push_cast; rfl, by rw [← soFar_next HLL.out HLT.out, HV.out]; exact R6.out, B6.out⟩
              case measure => simp [intOf]; have := HLT.out; omega
    · obtain rfl : i = 256 := by omega
      go_wp2_with fail
      go_ret
      have hr := ROW.out
      rw [soFar_end HLL.out] at hr
      exact ⟨_, rfl, hr, B1.out.size, below_then B1.out B1.out.size HR.out⟩
end Go.Proofs.Ytgmjpnampjkfeaa.Pie
