/- Knots: how many pairs; Find and Child, the program's and the document's, by their contracts (every input). -/
import Derived.BigQuiet
import Derived.Test.YtdekplalhfpooaaNodC
set_option linter.unusedVariables false
set_option linter.unusedSimpArgs false
namespace Go.Proofs.Ytdekplalhfpooaa.Knt
open Go Go.RowKit Go.Proofs.YtdekplalhfpooaaW.PrintWords Go.Proofs.YtdekplalhfpooaaW.PrintLast Go.Proofs.YtdekplalhfpooaaW.PrintMore Base Odr Hlp Nod

theorem below_then' {a b c : World} (h : Below a.heap.size a b) (h2 : Below b.heap.size b c) : Below a.heap.size a c := below_then h h.size h2
set_option maxRecDepth 100000 in
theorem count_at (L : Bool) (ak av : Option Addr) (nk ck nv cv m : Nat) (w : World) (hm : min nk nv = m) (hk : nk ≤ 9223372036854775807) (hv : nv ≤ 9223372036854775807) :
    Calls Try.prog 45 #[.agg #[.bool L, .slice ak nk ck, .slice av nv cv]] w fun e w' => e = .returned (.int .i64 (m : Int)) ∧ Below w.heap.size w w' := by
  obtain ⟨w1, hw1, b1, f1, s1⟩ := made w #[.bool L, .slice ak nk ck, .slice av nv cv] 24
  have B1 := Lib.hid b1
  have x1 : w1.cell? ⟨w.heap.size, 1, none⟩ = some (.slice ak nk ck) := cell_row f1 rfl
  have x2 : w1.cell? ⟨w.heap.size, 2, none⟩ = some (.slice av nv cv) := cell_row f1 rfl
  clear b1 f1 s1
  by_cases h : nv < nk
  · obtain rfl : m = nv := by omega
    have h' : (m : Int) < (nk : Int) := by omega
    clear hm
    go_enter Try.func45, Try.ntmps45
    go_wp2_with fail
    go_ret
    exact ⟨rfl, B1.out⟩
  · obtain rfl : m = nk := by omega
    have h' : ¬ (nv : Int) < (m : Int) := by omega
    clear hm
    go_enter Try.func45, Try.ntmps45
    go_wp2_with fail
    go_ret
    exact ⟨rfl, B1.out⟩
set_option maxRecDepth 100000 in
theorem pairs_at (L : Bool) (ak av : Option Addr) (nk ck nv cv m : Nat) (w : World) (hm : min nk nv = m) (hk : nk ≤ 9223372036854775807) (hv : nv ≤ 9223372036854775807) :
    Calls Try.prog 46 #[.agg #[.bool L, .slice ak nk ck, .slice av nv cv]] w fun e w' => e = .returned (.int .i64 (m : Int)) ∧ Below w.heap.size w w' := by
  obtain ⟨w1, hw1, b1, f1, s1⟩ := made w #[.bool L, .slice ak nk ck, .slice av nv cv] 24
  have B1 := Lib.hid b1
  have x1 : w1.cell? ⟨w.heap.size, 1, none⟩ = some (.slice ak nk ck) := cell_row f1 rfl
  have x2 : w1.cell? ⟨w.heap.size, 2, none⟩ = some (.slice av nv cv) := cell_row f1 rfl
  clear b1 f1 s1
  by_cases h : nk < nv
  · obtain rfl : m = nk := by omega
    have d : decide ((m : Int) < (nv : Int)) = true := decide_eq_true (by omega)
    clear hm
    go_enter Try.func46, Try.ntmps46
    go_wp2_with fail
    go_ret
    exact ⟨rfl, B1.out⟩
  · obtain rfl : m = nv := by omega
    have d : decide ((nk : Int) < (m : Int)) = false := decide_eq_false (by omega)
    clear hm
    go_enter Try.func46, Try.ntmps46
    go_wp2_with fail
    go_ret
    exact ⟨rfl, B1.out⟩
/-- How many of the first m pass a test, up to the first that does not. -/
def pos (K : List Int) (m : Nat) (p : Int → Bool) : Nat := ((K.take m).takeWhile p).length
theorem pos_at {p : Int → Bool} : ∀ {K : List Int} {m i : Nat}, i ≤ m → m ≤ K.length → (∀ j, j < i → p (K.getD j 0) = true) → (i < m → p (K.getD i 0) = false) → pos K m p = i := by
  intro K
  induction K with
  | nil => intro m i h1 h2 _ _; simp only [List.length_nil] at h2; unfold pos; simp; omega
  | cons x xs ih =>
    intro m i h1 h2 h3 h4
    cases m with
    | zero => unfold pos; simp; omega
    | succ m =>
      cases i with
      | zero =>
        have := h4 (by omega)
        simp only [List.getD_cons_zero] at this
        unfold pos; simp [this]
      | succ i =>
        have h0 := h3 0 (by omega)
        simp only [List.getD_cons_zero] at h0
        have hr := ih (m := m) (i := i) (by omega) (by simp only [List.length_cons] at h2; omega) (fun j hj => by have := h3 (j + 1) (by omega); simpa using this) (fun hi => by have := h4 (by omega); simpa using this)
        unfold pos at hr ⊢
        simp [h0, hr]
theorem pos_le (K : List Int) (m : Nat) (p : Int → Bool) : pos K m p ≤ m := by
  unfold pos
  have := (List.takeWhile_prefix p (l := K.take m)).length_le
  rw [List.length_take] at this; omega
def below (key : Int) : Int → Bool := fun x => decide (x < key)
def atmost (key : Int) : Int → Bool := fun x => decide (x ≤ key)
set_option maxRecDepth 100000 in
set_option maxHeartbeats 1600000 in
theorem find_at (L : Bool) (K V : List Int) (ak av : Option Addr) (nk ck nv cv : Nat) (key : Int) (w : World) (HK : ReadsInt w .u64 ak nk K) (HV : ReadsInt w .u64 av nv V) {m i : Nat} {r : Bool} (hm : min nk nv = m) (hi : pos K m (below key) = i) (hr : decide (i < m ∧ K.getD i 0 = key) = r) :
    Calls Try.prog 14 #[.agg #[.bool L, .slice ak nk ck, .slice av nv cv], .int .u64 key] w fun e w' => e = .returned (.tuple #[.int .i64 (i : Int), .bool r]) ∧ Below w.heap.size w w' := by
  obtain ⟨w1, hw1, b1, f1, s1⟩ := made w #[.bool L, .slice ak nk ck, .slice av nv cv] 24
  have P1 := Lib.hid f1
  have B1 := Lib.hid b1
  have R1 := Lib.hid (HK.below b1)
  have HM := Lib.hid hm
  have HS := Lib.hid (And.intro HK.2.1 HV.2.1)
  have HI := Lib.hid (And.intro hi hr)
  have HL := Lib.hid HK.1
  clear b1 f1 s1 HK HV hm hi hr
  go_enter Try.func14, Try.ntmps14
  go_wp2_with ((with_reducible refine wpList_load_row rfl 24 (.tmp 2) rfl w.heap.size ?_ 24 _ _ _ P1.out Try.underlying24 ?_ (size3 _ _ _) ?_); rfl; rfl)
  refine (count_at L ak av nk ck nv cv m _ HM.out HS.out.1 HS.out.2).mono ?_; rintro e w2 ⟨rfl, hb⟩
  have B2 := Lib.hid (below_then' B1.out hb)
  have P2 := Lib.hid (keep_row P1.out hb)
  have R2 := Lib.hid (R1.out.below hb)
  have c1 : w2.cell? ⟨w.heap.size, 1, none⟩ = some (.slice ak nk ck) := cell_row P2.out rfl
  clear hb
  have hm63 : m ≤ 9223372036854775807 := by have h1 := HM.out; have h2 := HS.out; omega
  have hmk : m ≤ nk := by have h1 := HM.out; omega
  have HMK := Lib.hid hmk
  clear hmk
  go_wp2_with fail
  go_loop [11] (fun iv => ∃ j : Nat, j ≤ m ∧ iv = .int .i64 (j : Int) ∧ ∀ x, x < j → below key (K.getD x 0) = true) (fun iv => m - (intOf iv).toNat)
  case atStart => exact ⟨0, by omega, rfl, fun x hx => absurd hx (by omega)⟩
  case round =>
    obtain ⟨j, hj, rfl, hall⟩ := hrel
    have HA := Lib.hid hall
    clear hall
    by_cases hlt : j < m
    · obtain ⟨ad, rfl, hc⟩ := cell_at R2.out j (by have := HMK.out; omega)
      obtain ⟨x, hx⟩ : ∃ x, K.getD j 0 = x := ⟨_, rfl⟩
      rw [hx] at hc
      have hjk : (j : Int) < (nk : Int) := by have := HMK.out; omega
      have hjk' : j < nk := by have := HMK.out; omega
      have HX := Lib.hid hx
      have HLT := Lib.hid hlt
      clear hx hj
      by_cases hge : key ≤ x
      · have d : decide (key ≤ x) = true := decide_eq_true hge
        have HIJ := Lib.hid (pos_at (K := K) (p := below key) (Nat.le_of_lt HLT.out) (by rw [HL.out]; exact HMK.out) HA.out (fun _ => by rw [HX.out]; exact decide_eq_false (by omega)))
        have hij : i = j := by rw [← HI.out.1, HIJ.out]
        by_cases he : x = key
        · have d2 : (x == key) = true := by simp [he]
          have hr : r = true := by rw [← HI.out.2, hij]; exact decide_eq_true ⟨HLT.out, by rw [HX.out]; exact he⟩
          subst hij; subst hr
          clear he hge
          go_wp2_with fail
          go_quiet (fail)
          go_wp2_with fail
          go_ret2
          exact ⟨rfl, below_dn B2.out _⟩
        · have d2 : (x == key) = false := by simp [he]
          have hr : r = false := by rw [← HI.out.2, hij]; exact decide_eq_false (fun h => he (by rw [← HX.out]; exact h.2))
          subst hij; subst hr
          clear he hge
          go_wp2_with fail
          go_quiet (fail)
          go_wp2_with fail
          go_ret2
          exact ⟨rfl, below_dn B2.out _⟩
      · have d : decide (key ≤ x) = false := decide_eq_false hge
        have HA' := Lib.hid (show ∀ y, y < j + 1 → below key (K.getD y 0) = true by
          intro y hy
          by_cases h : y = j
          · rw [h, HX.out]; exact decide_eq_true (by omega)
          · exact HA.out y (by omega))
        clear hge
        go_wp2_with fail
        go_round
        case rel => exact ⟨j + 1, HLT.out, by push_cast; rfl, HA'.out⟩
        case measure => simp [intOf]; have := HLT.out; omega
    · obtain rfl : j = m := by omega
      have hij : i = j := by rw [← HI.out.1, pos_at (K := K) (p := below key) (Nat.le_refl _) (by rw [HL.out]; exact HMK.out) HA.out (fun h => absurd h (by omega))]
      have hr : r = false := by rw [← HI.out.2, hij]; exact decide_eq_false (fun h => absurd h.1 (by omega))
      subst hij; subst hr
      clear hj hlt
      go_wp2_with fail
      go_ret2
      exact ⟨rfl, B2.out⟩
set_option maxRecDepth 100000 in
set_option maxHeartbeats 1600000 in
theorem rfind_at (L : Bool) (K V : List Int) (ak av : Option Addr) (nk ck nv cv : Nat) (key : Int) (w : World) (HK : ReadsInt w .u64 ak nk K) (HV : ReadsInt w .u64 av nv V) {m i : Nat} {r : Bool} (hm : min nk nv = m) (hi : pos K m (below key) = i) (hr : decide (i < m ∧ K.getD i 0 = key) = r) :
    Calls Try.prog 15 #[.agg #[.bool L, .slice ak nk ck, .slice av nv cv], .int .u64 key] w fun e w' => e = .returned (.tuple #[.int .i64 (i : Int), .bool r]) ∧ Below w.heap.size w w' := by
  obtain ⟨w1, hw1, b1, f1, s1⟩ := made w #[.bool L, .slice ak nk ck, .slice av nv cv] 24
  have P1 := Lib.hid f1
  have B1 := Lib.hid b1
  have R1 := Lib.hid (HK.below b1)
  have HM := Lib.hid hm
  have HS := Lib.hid (And.intro HK.2.1 HV.2.1)
  have HI := Lib.hid (And.intro hi hr)
  have HL := Lib.hid HK.1
  clear b1 f1 s1 HK HV hm hi hr
  go_enter Try.func15, Try.ntmps15
  go_wp2_with fail
  go_loopw [6] (fun iv wr => ∃ j : Nat, j ≤ m ∧ iv = .int .i64 (j : Int) ∧ (∀ x, x < j → below key (K.getD x 0) = true) ∧ Below w1.heap.size w1 wr) (fun iv _ => m - (intOf iv).toNat)
  case atStart => exact ⟨0, by omega, rfl, fun x hx => absurd hx (by omega), Below.refl _ _⟩
  case round =>
    obtain ⟨j, hj, rfl, hall, hb⟩ := hrel
    have HA := Lib.hid hall
    have HB := Lib.hid hb
    have P2 := Lib.hid (keep_row P1.out hb)
    have R2 := Lib.hid (R1.out.below hb)
    clear hall hb
    have hm63 : m ≤ 9223372036854775807 := by have h1 := HM.out; have h2 := HS.out; omega
    have HMK := Lib.hid (show m ≤ nk by have h1 := HM.out; omega)
    go_wp2_with ((with_reducible refine wpList_load_row rfl 24 (.tmp 2) rfl w.heap.size ?_ 24 _ _ _ P2.out Try.underlying24 ?_ (size3 _ _ _) ?_); rfl; rfl)
    refine (pairs_at L ak av nk ck nv cv m _ HM.out HS.out.1 HS.out.2).mono ?_; rintro e w3 ⟨rfl, hb⟩
    have B3 := Lib.hid (below_then HB.out HB.out.size hb)
    have P3 := Lib.hid (keep_row P2.out hb)
    have R3 := Lib.hid (R2.out.below hb)
    have c1 : w3.cell? ⟨w.heap.size, 1, none⟩ = some (.slice ak nk ck) := cell_row P3.out rfl
    clear hb
    by_cases hlt : j < m
    · obtain ⟨ad, rfl, hc⟩ := cell_at R3.out j (by have := HMK.out; omega)
      obtain ⟨x, hx⟩ : ∃ x, K.getD j 0 = x := ⟨_, rfl⟩
      rw [hx] at hc
      have hjk : (j : Int) < (nk : Int) := by have := HMK.out; omega
      have hjk' : j < nk := by have := HMK.out; omega
      have dj : decide ((j : Int) < (m : Int)) = true := decide_eq_true (by omega)
      have HX := Lib.hid hx
      have HLT := Lib.hid hlt
      clear hx hj
      by_cases hge : x < key
      · have d : decide (x < key) = true := decide_eq_true hge
        have HA' := Lib.hid (show ∀ y, y < j + 1 → below key (K.getD y 0) = true by
          intro y hy
          by_cases h : y = j
          · rw [h, HX.out]; exact decide_eq_true (by omega)
          · exact HA.out y (by omega))
        clear hge
        go_wp2_with fail
        go_roundw
        case rel => exact ⟨j + 1, HLT.out, by push_cast; rfl, HA'.out, B3.out⟩
        case measure => simp [intOf]; have := HLT.out; omega
      · have d : decide (x < key) = false := decide_eq_false hge
        have HIJ := Lib.hid (pos_at (K := K) (p := below key) (Nat.le_of_lt HLT.out) (by rw [HL.out]; exact HMK.out) HA.out (fun _ => by rw [HX.out]; exact decide_eq_false (by omega)))
        have hij : i = j := by rw [← HI.out.1, HIJ.out]
        have hr : (x == key) = r := by
          rw [← HI.out.2, hij]
          by_cases he : x = key
          · rw [decide_eq_true (show j < m ∧ K.getD j 0 = key from ⟨HLT.out, by rw [HX.out]; exact he⟩)]; simp [he]
          · rw [decide_eq_false (fun h => he (by rw [← HX.out]; exact h.2))]; simp [he]
        subst hij
        clear hge
        go_wp2_with fail
        refine start_ (n := 16) (S := fun w' => w'.cell? ⟨w.heap.size, 0, none⟩ = some (.bool L) ∧ w'.cell? ⟨w.heap.size, 1, none⟩ = some (.slice (some ad) nk ck) ∧ w'.cell? ⟨w.heap.size, 2, none⟩ = some (.slice av nv cv) ∧ w'.cell? (ad.add i) = some (.int .u64 x)) (ds := []) #[false, false, false, false, false, false, false, false, false, false, false, false, false, false, false, false] (by kernel_rfl) rfl rfl ⟨cell_row P3.out rfl, cell_row P3.out rfl, cell_row P3.out rfl, hc⟩ (fun hHeld => ?_)
        refine pure_ (i := 0) (N := some 22) (v := ?_) (a' := ?_) #[true, false, false, false, false, false, false, false, false, false, false, false, false, false, false, false] rfl rfl (by kernel_rfl) (fun _ _ _ h => h) (Or.inl ⟨by rfl, ?_⟩) ?_ ?_
        rotate_left
        · intro w'
          go_simp
          with_reducible rfl
        rotate_left
        · simp only [Act.put, List.setIfInBounds_toArray, List.set_cons_zero, List.set_cons_succ, i64_w, i32_w]
          rfl
        refine pure_ (i := 1) (N := some 23) (v := ?_) (a' := ?_) #[true, true, false, false, false, false, false, false, false, false, false, false, false, false, false, false] rfl rfl (by kernel_rfl) (fun _ _ _ h => h) (Or.inl ⟨by rfl, ?_⟩) ?_ ?_
        rotate_left
        · intro w'
          go_simp
          with_reducible rfl
        rotate_left
        · simp only [Act.put, List.setIfInBounds_toArray, List.set_cons_zero, List.set_cons_succ, i64_w, i32_w]
          rfl
        refine take_ (i := 2) (N := some 24) (v := ?_) (a' := ?_) #[true, true, true, false, false, false, false, false, false, false, false, false, false, false, false, false] rfl rfl (by kernel_rfl) (fun _ _ _ h => h) (Or.inl ⟨by rfl, ?_⟩) hHeld ?_ ?_
        rotate_left
        · rintro w' ⟨s0, s1, s2, s3⟩
          go_simp
          with_reducible rfl
        rotate_left
        · simp only [Act.put, List.setIfInBounds_toArray, List.set_cons_zero, List.set_cons_succ, i64_w, i32_w]
          rfl
        refine one_ (i := 3) (N := some 25) #[true, true, true, true, false, false, false, false, false, false, false, false, false, false, false, false] rfl rfl (by kernel_rfl) (by decide) (fun K hK => ?_)
        refine goes_ Try.func46 (by kernel_rfl) rfl #[.agg #[.bool L, .slice (some ad) nk ck, .slice av nv cv]] (by rfl) rfl rfl (by simp only [List.map_toArray, List.map_cons, List.map_nil]; rfl) ?_
        with_reducible refine (pairs_at L (some ad) av nk ck nv cv m _ HM.out HS.out.1 HS.out.2).mono ?_
        rintro e w5 ⟨rfl, hb⟩
        refine ⟨_, rfl, ?_⟩
        have B5 := Lib.hid (below_then (below_drew B3.out) (below_drew B3.out).size hb)
        have P5 := Lib.hid (keep_row (w := w3.drew) P3.out hb)
        have hc5 := pw_cell_below (w := w3.drew) hb hc
        clear hb
        refine hK.out _ _ ⟨cell_row P5.out rfl, cell_row P5.out rfl, cell_row P5.out rfl, hc5⟩ (fun hHeld => ?_)
        clear hK K
        refine norm_ (a' := ?_) ?_ ?_
        rotate_left
        · show Act.put _ (some 25) _ = _
          simp only [Act.put, List.setIfInBounds_toArray, List.set_cons_zero, List.set_cons_succ, i64_w, i32_w]
          rfl
        refine pure_ (i := 4) (N := some 26) (v := ?_) (a' := ?_) #[true, true, true, true, true, false, false, false, false, false, false, false, false, false, false, false] rfl rfl (by kernel_rfl) (fun _ _ _ h => h) (Or.inl ⟨by rfl, ?_⟩) ?_ ?_
        rotate_left
        · intro w'
          go_simp
          with_reducible rfl
        rotate_left
        · simp only [Act.put, List.setIfInBounds_toArray, List.set_cons_zero, List.set_cons_succ, i64_w, i32_w]
          rfl
        refine pure_ (i := 5) (N := some 27) (v := ?_) (a' := ?_) #[true, true, true, true, true, true, false, false, false, false, false, false, false, false, false, false] rfl rfl (by kernel_rfl) (fun _ _ _ h => h) (Or.inl ⟨by rfl, ?_⟩) ?_ ?_
        rotate_left
        · intro w'
          go_simp
          with_reducible rfl
        rotate_left
        · simp only [Act.put, List.setIfInBounds_toArray, List.set_cons_zero, List.set_cons_succ, i64_w, i32_w]
          rfl
        refine pure_ (i := 6) (N := some 28) (v := ?_) (a' := ?_) #[true, true, true, true, true, true, true, false, false, false, false, false, false, false, false, false] rfl rfl (by kernel_rfl) (fun _ _ _ h => h) (Or.inl ⟨by rfl, ?_⟩) ?_ ?_
        rotate_left
        · intro w'
          go_simp
          with_reducible rfl
        rotate_left
        · simp only [Act.put, List.setIfInBounds_toArray, List.set_cons_zero, List.set_cons_succ, i64_w, i32_w]
          rfl
        refine pure_ (i := 8) (N := some 30) (v := ?_) (a' := ?_) #[true, true, true, true, true, true, true, false, true, false, false, false, false, false, false, false] rfl rfl (by kernel_rfl) (fun _ _ _ h => h) (Or.inl ⟨by rfl, ?_⟩) ?_ ?_
        rotate_left
        · intro w'
          go_simp
          with_reducible rfl
        rotate_left
        · simp only [Act.put, List.setIfInBounds_toArray, List.set_cons_zero, List.set_cons_succ, i64_w, i32_w]
          rfl
        refine pure_ (i := 11) (N := some 33) (v := ?_) (a' := ?_) #[true, true, true, true, true, true, true, false, true, false, false, true, false, false, false, false] rfl rfl (by kernel_rfl) (fun _ _ _ h => h) (Or.inl ⟨by rfl, ?_⟩) ?_ ?_
        rotate_left
        · intro w'
          go_simp
          with_reducible rfl
        rotate_left
        · simp only [Act.put, List.setIfInBounds_toArray, List.set_cons_zero, List.set_cons_succ, i64_w, i32_w]
          rfl
        refine pure_ (i := 14) (N := some 4) (v := ?_) (a' := ?_) #[true, true, true, true, true, true, true, false, true, false, false, true, false, false, true, false] rfl rfl (by kernel_rfl) (fun _ _ _ h => h) (Or.inl ⟨by rfl, ?_⟩) ?_ ?_
        rotate_left
        · intro w'
          go_simp
          with_reducible rfl
        rotate_left
        · simp only [Act.put, List.setIfInBounds_toArray, List.set_cons_zero, List.set_cons_succ, i64_w, i32_w]
          rfl
        refine take_ (i := 7) (N := some 29) (v := ?_) (a' := ?_) #[true, true, true, true, true, true, true, true, true, false, false, true, false, false, true, false] rfl rfl (by kernel_rfl) (fun _ _ _ h => h) (Or.inl ⟨by rfl, ?_⟩) hHeld ?_ ?_
        rotate_left
        · rintro w' ⟨s0, s1, s2, s3⟩
          go_simp
          with_reducible rfl
        rotate_left
        · simp only [Act.put, List.setIfInBounds_toArray, List.set_cons_zero, List.set_cons_succ, i64_w, i32_w]
          rfl
        refine pure_ (i := 9) (N := some 31) (v := ?_) (a' := ?_) #[true, true, true, true, true, true, true, true, true, true, false, true, false, false, true, false] rfl rfl (by kernel_rfl) (fun _ _ _ h => h) (Or.inl ⟨by rfl, ?_⟩) ?_ ?_
        rotate_left
        · intro w'
          go_simp
          with_reducible rfl
        rotate_left
        · simp only [Act.put, List.setIfInBounds_toArray, List.set_cons_zero, List.set_cons_succ, i64_w, i32_w]
          rfl
        refine take_ (i := 10) (N := some 32) (v := ?_) (a' := ?_) #[true, true, true, true, true, true, true, true, true, true, true, true, false, false, true, false] rfl rfl (by kernel_rfl) (fun _ _ _ h => h) (Or.inl ⟨by rfl, ?_⟩) hHeld ?_ ?_
        rotate_left
        · rintro w' ⟨s0, s1, s2, s3⟩
          go_simp
          with_reducible rfl
        rotate_left
        · simp only [Act.put, List.setIfInBounds_toArray, List.set_cons_zero, List.set_cons_succ, i64_w, i32_w]
          rfl
        refine pure_ (i := 12) (N := some 34) (v := ?_) (a' := ?_) #[true, true, true, true, true, true, true, true, true, true, true, true, true, false, true, false] rfl rfl (by kernel_rfl) (fun _ _ _ h => h) (Or.inl ⟨by rfl, ?_⟩) ?_ ?_
        rotate_left
        · intro w'
          go_simp
          with_reducible rfl
        rotate_left
        · simp only [Act.put, List.setIfInBounds_toArray, List.set_cons_zero, List.set_cons_succ, i64_w, i32_w]
          rfl
        refine pure_ (i := 13) (N := some 35) (v := ?_) (a' := ?_) #[true, true, true, true, true, true, true, true, true, true, true, true, true, true, true, false] rfl rfl (by kernel_rfl) (fun _ _ _ h => h) (Or.inl ⟨by rfl, ?_⟩) ?_ ?_
        rotate_left
        · intro w'
          go_simp
          with_reducible rfl
        rotate_left
        · simp only [Act.put, List.setIfInBounds_toArray, List.set_cons_zero, List.set_cons_succ, i64_w, i32_w]
          rfl
        refine pure_ (i := 15) (N := some 5) (v := ?_) (a' := ?_) #[true, true, true, true, true, true, true, true, true, true, true, true, true, true, true, true] rfl rfl (by kernel_rfl) (fun _ _ _ h => h) (Or.inl ⟨by rfl, ?_⟩) ?_ ?_
        rotate_left
        · intro w'
          go_simp
          with_reducible rfl
        rotate_left
        · simp only [Act.put, List.setIfInBounds_toArray, List.set_cons_zero, List.set_cons_succ, i64_w, i32_w]
          rfl
        refine done_ (by kernel_rfl) ?_
        go_wp2_with fail
        go_ret2
        exact ⟨rfl, below_then B1.out B1.out.size B5.out⟩
    · obtain rfl : j = m := by omega
      have hij : i = j := by rw [← HI.out.1, pos_at (K := K) (p := below key) (Nat.le_refl _) (by rw [HL.out]; exact HMK.out) HA.out (fun h => absurd h (by omega))]
      have hr : r = false := by rw [← HI.out.2, hij]; exact decide_eq_false (fun h => absurd h.1 (by omega))
      have dj : decide ((j : Int) < (j : Int)) = false := by simp
      subst hij; subst hr
      clear hj hlt
      go_wp2_with fail
      refine start_ (n := 16) (S := fun w' => w'.cell? ⟨w.heap.size, 0, none⟩ = some (.bool L) ∧ w'.cell? ⟨w.heap.size, 1, none⟩ = some (.slice ak nk ck) ∧ w'.cell? ⟨w.heap.size, 2, none⟩ = some (.slice av nv cv)) (ds := []) #[false, false, false, false, false, false, false, false, false, false, false, false, false, false, false, false] (by kernel_rfl) rfl rfl ⟨cell_row P3.out rfl, cell_row P3.out rfl, cell_row P3.out rfl⟩ (fun hHeld => ?_)
      refine pure_ (i := 0) (N := some 22) (v := ?_) (a' := ?_) #[true, false, false, false, false, false, false, false, false, false, false, false, false, false, false, false] rfl rfl (by kernel_rfl) (fun _ _ _ h => h) (Or.inl ⟨by rfl, ?_⟩) ?_ ?_
      rotate_left
      · intro w'
        go_simp
        with_reducible rfl
      rotate_left
      · simp only [Act.put, List.setIfInBounds_toArray, List.set_cons_zero, List.set_cons_succ, i64_w, i32_w]
        rfl
      refine pure_ (i := 1) (N := some 23) (v := ?_) (a' := ?_) #[true, true, false, false, false, false, false, false, false, false, false, false, false, false, false, false] rfl rfl (by kernel_rfl) (fun _ _ _ h => h) (Or.inl ⟨by rfl, ?_⟩) ?_ ?_
      rotate_left
      · intro w'
        go_simp
        with_reducible rfl
      rotate_left
      · simp only [Act.put, List.setIfInBounds_toArray, List.set_cons_zero, List.set_cons_succ, i64_w, i32_w]
        rfl
      refine take_ (i := 2) (N := some 24) (v := ?_) (a' := ?_) #[true, true, true, false, false, false, false, false, false, false, false, false, false, false, false, false] rfl rfl (by kernel_rfl) (fun _ _ _ h => h) (Or.inl ⟨by rfl, ?_⟩) hHeld ?_ ?_
      rotate_left
      · rintro w' ⟨s0, s1, s2⟩
        go_simp
        with_reducible rfl
      rotate_left
      · simp only [Act.put, List.setIfInBounds_toArray, List.set_cons_zero, List.set_cons_succ, i64_w, i32_w]
        rfl
      refine one_ (i := 3) (N := some 25) #[true, true, true, true, false, false, false, false, false, false, false, false, false, false, false, false] rfl rfl (by kernel_rfl) (by decide) (fun K hK => ?_)
      refine goes_ Try.func46 (by kernel_rfl) rfl #[.agg #[.bool L, .slice ak nk ck, .slice av nv cv]] (by rfl) rfl rfl (by simp only [List.map_toArray, List.map_cons, List.map_nil]; rfl) ?_
      with_reducible refine (pairs_at L ak av nk ck nv cv i _ HM.out HS.out.1 HS.out.2).mono ?_
      rintro e w5 ⟨rfl, hb⟩
      refine ⟨_, rfl, ?_⟩
      have B5 := Lib.hid (below_then (below_drew B3.out) (below_drew B3.out).size hb)
      have P5 := Lib.hid (keep_row (w := w3.drew) P3.out hb)
      clear hb
      refine hK.out _ _ ⟨cell_row P5.out rfl, cell_row P5.out rfl, cell_row P5.out rfl⟩ (fun hHeld => ?_)
      clear hK K
      refine norm_ (a' := ?_) ?_ ?_
      rotate_left
      · show Act.put _ (some 25) _ = _
        simp only [Act.put, List.setIfInBounds_toArray, List.set_cons_zero, List.set_cons_succ, i64_w, i32_w]
        rfl
      refine pure_ (i := 4) (N := some 26) (v := ?_) (a' := ?_) #[true, true, true, true, true, false, false, false, false, false, false, false, false, false, false, false] rfl rfl (by kernel_rfl) (fun _ _ _ h => h) (Or.inl ⟨by rfl, ?_⟩) ?_ ?_
      rotate_left
      · intro w'
        go_simp
        with_reducible rfl
      rotate_left
      · simp only [Act.put, List.setIfInBounds_toArray, List.set_cons_zero, List.set_cons_succ, i64_w, i32_w]
        rfl
      refine pure_ (i := 5) (N := some 27) (v := ?_) (a' := ?_) #[true, true, true, true, true, true, false, false, false, false, false, false, false, false, false, false] rfl rfl (by kernel_rfl) (fun _ _ _ h => h) (Or.inl ⟨by rfl, ?_⟩) ?_ ?_
      rotate_left
      · intro w'
        go_simp
        with_reducible rfl
      rotate_left
      · simp only [Act.put, List.setIfInBounds_toArray, List.set_cons_zero, List.set_cons_succ, i64_w, i32_w]
        rfl
      refine pure_ (i := 6) (N := some 28) (v := undef) (a' := ?_) #[true, true, true, true, true, true, true, false, false, false, false, false, false, false, false, false] rfl rfl (by kernel_rfl) (fun _ _ _ h => h) (Or.inr ⟨by rfl, rfl⟩) ?_ ?_
      rotate_left
      · simp only [Act.put, List.setIfInBounds_toArray, List.set_cons_zero, List.set_cons_succ, i64_w, i32_w]
        rfl
      refine pure_ (i := 7) (N := some 29) (v := undef) (a' := ?_) #[true, true, true, true, true, true, true, true, false, false, false, false, false, false, false, false] rfl rfl (by kernel_rfl) (fun _ _ _ h => h) (Or.inr ⟨by rfl, rfl⟩) ?_ ?_
      rotate_left
      · simp only [Act.put, List.setIfInBounds_toArray, List.set_cons_zero, List.set_cons_succ, i64_w, i32_w]
        rfl
      refine pure_ (i := 8) (N := some 30) (v := undef) (a' := ?_) #[true, true, true, true, true, true, true, true, true, false, false, false, false, false, false, false] rfl rfl (by kernel_rfl) (fun _ _ _ h => h) (Or.inr ⟨by rfl, rfl⟩) ?_ ?_
      rotate_left
      · simp only [Act.put, List.setIfInBounds_toArray, List.set_cons_zero, List.set_cons_succ, i64_w, i32_w]
        rfl
      refine pure_ (i := 9) (N := some 31) (v := undef) (a' := ?_) #[true, true, true, true, true, true, true, true, true, true, false, false, false, false, false, false] rfl rfl (by kernel_rfl) (fun _ _ _ h => h) (Or.inr ⟨by rfl, rfl⟩) ?_ ?_
      rotate_left
      · simp only [Act.put, List.setIfInBounds_toArray, List.set_cons_zero, List.set_cons_succ, i64_w, i32_w]
        rfl
      refine pure_ (i := 10) (N := some 32) (v := undef) (a' := ?_) #[true, true, true, true, true, true, true, true, true, true, true, false, false, false, false, false] rfl rfl (by kernel_rfl) (fun _ _ _ h => h) (Or.inr ⟨by rfl, rfl⟩) ?_ ?_
      rotate_left
      · simp only [Act.put, List.setIfInBounds_toArray, List.set_cons_zero, List.set_cons_succ, i64_w, i32_w]
        rfl
      refine pure_ (i := 11) (N := some 33) (v := undef) (a' := ?_) #[true, true, true, true, true, true, true, true, true, true, true, true, false, false, false, false] rfl rfl (by kernel_rfl) (fun _ _ _ h => h) (Or.inr ⟨by rfl, rfl⟩) ?_ ?_
      rotate_left
      · simp only [Act.put, List.setIfInBounds_toArray, List.set_cons_zero, List.set_cons_succ, i64_w, i32_w]
        rfl
      refine pure_ (i := 12) (N := some 34) (v := undef) (a' := ?_) #[true, true, true, true, true, true, true, true, true, true, true, true, true, false, false, false] rfl rfl (by kernel_rfl) (fun _ _ _ h => h) (Or.inr ⟨by rfl, rfl⟩) ?_ ?_
      rotate_left
      · simp only [Act.put, List.setIfInBounds_toArray, List.set_cons_zero, List.set_cons_succ, i64_w, i32_w]
        rfl
      refine pure_ (i := 13) (N := some 35) (v := ?_) (a' := ?_) #[true, true, true, true, true, true, true, true, true, true, true, true, true, true, false, false] rfl rfl (by kernel_rfl) (fun _ _ _ h => h) (Or.inl ⟨by rfl, ?_⟩) ?_ ?_
      rotate_left
      · intro w'
        go_simp
        with_reducible rfl
      rotate_left
      · simp only [Act.put, List.setIfInBounds_toArray, List.set_cons_zero, List.set_cons_succ, i64_w, i32_w]
        rfl
      refine pure_ (i := 14) (N := some 4) (v := ?_) (a' := ?_) #[true, true, true, true, true, true, true, true, true, true, true, true, true, true, true, false] rfl rfl (by kernel_rfl) (fun _ _ _ h => h) (Or.inl ⟨by rfl, ?_⟩) ?_ ?_
      rotate_left
      · intro w'
        go_simp
        with_reducible rfl
      rotate_left
      · simp only [Act.put, List.setIfInBounds_toArray, List.set_cons_zero, List.set_cons_succ, i64_w, i32_w]
        rfl
      refine pure_ (i := 15) (N := some 5) (v := ?_) (a' := ?_) #[true, true, true, true, true, true, true, true, true, true, true, true, true, true, true, true] rfl rfl (by kernel_rfl) (fun _ _ _ h => h) (Or.inl ⟨by rfl, ?_⟩) ?_ ?_
      rotate_left
      · intro w'
        go_simp
        with_reducible rfl
      rotate_left
      · simp only [Act.put, List.setIfInBounds_toArray, List.set_cons_zero, List.set_cons_succ, i64_w, i32_w]
        rfl
      refine done_ (by kernel_rfl) ?_
      go_wp2_with fail
      go_ret2
      exact ⟨rfl, below_then B1.out B1.out.size B5.out⟩
end Go.Proofs.Ytdekplalhfpooaa.Knt
