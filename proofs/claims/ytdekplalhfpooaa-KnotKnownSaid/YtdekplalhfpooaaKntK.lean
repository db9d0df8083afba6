/- Knots: a node of keys that rise (how many it has, and its values), by its contract (every input). -/
import Derived.BigQuiet
import Derived.Test.YtdekplalhfpooaaKntJ
set_option linter.unusedVariables false
set_option linter.unusedSimpArgs false
namespace Go.Proofs.Ytdekplalhfpooaa.Knt
open Go Go.RowKit Go.Proofs.YtdekplalhfpooaaW.PrintWords Go.Proofs.YtdekplalhfpooaaW.PrintLast Go.Proofs.YtdekplalhfpooaaW.PrintMore Base Odr Hlp Nod

theorem cut_row {W : World} {B q c a : Nat} {A : Option Addr} {K : List Int} (ho : W.ownsRow B 25 1 (.slice A q c) q (nums .u64 K)) (hk : K.length = q) (ha : a ≤ q) :
    ∃ AD d cd, q - a = d ∧ (∀ W' : World, (Instr.slice 22 (.slice A q c) (some (.int .i64 (a : Int))) none none).run Try.prog W' = .ok (.slice AD d cd) W') ∧ ReadsInt W .u64 AD d (K.drop a) ∧ (AD = none → d = 0 ∧ cd = 0) := by
  obtain ⟨i, hi, hz0, hz1, hz2⟩ := info64'
  have hcut := cut_from (P := Try.prog) 22 25 .i64 Try.underlying22 hi 1 hz1 A q c (a : Int) (by omega) (by omega)
  rw [Int.toNat_natCast] at hcut
  refine ⟨dropA A c a, q - a, c - a, rfl, hcut, ?_, fun h => ?_⟩
  · exact mine_reads (mine_drop ho hk ha)
  · have h1 := own_nilc ho (none_of (B := dropA A c a) rfl h)
    omega
/-- Rising keys. -/
def Up (K : List Int) : Prop := K.Pairwise (· < ·)
/-- The first keys are below. -/
def Low (K : List Int) (a : Nat) (k : Int) : Prop := ∀ j, j < a → K.getD j 0 < k
theorem low_succ {K : List Int} {a : Nat} {k x : Int} (h : Low K a k) (hx : K.getD a 0 = x) (hk : x < k) : Low K (a + 1) k := by
  intro j hj
  by_cases he : j = a
  · rw [he, hx]; exact hk
  · exact h j (by omega)
theorem up_get {K : List Int} (h : Up K) {i j : Nat} (hij : i < j) (hj : j < K.length) : K.getD i 0 < K.getD j 0 := by
  have := (List.pairwise_iff_getElem.1 h) i j (by omega) hj hij
  rw [List.getD_eq_getElem?_getD, List.getD_eq_getElem?_getD, List.getElem?_eq_getElem (by omega), List.getElem?_eq_getElem hj]
  exact this
theorem up_ins {K : List Int} {k : Int} {a : Nat} (h : Up K) (hl : Low K a k) (hr : a < K.length → k < K.getD a 0) : Up (K.take a ++ k :: K.drop a) := by
  have h1 : ∀ x ∈ K.take a, x < k := by
    intro x hx
    obtain ⟨j, hj, rfl⟩ := List.getElem_of_mem hx
    rw [List.length_take] at hj
    have := hl j (by omega)
    rw [List.getD_eq_getElem?_getD, List.getElem?_eq_getElem (by omega)] at this
    rw [List.getElem_take]
    exact this
  have h2 : ∀ y ∈ K.drop a, k < y := by
    intro y hy
    obtain ⟨j, hj, rfl⟩ := List.getElem_of_mem hy
    rw [List.length_drop] at hj
    rw [List.getElem_drop]
    have h3 := hr (by omega)
    have h4 : K.getD (a + j) 0 = K[a + j] := by rw [List.getD_eq_getElem?_getD, List.getElem?_eq_getElem (by omega)]; rfl
    by_cases hj0 : j = 0
    · subst hj0
      rw [← h4]; exact h3
    · rw [← h4]
      have := up_get h (i := a) (j := a + j) (by omega) (by omega)
      omega
  refine List.pairwise_append.2 ⟨List.Pairwise.sublist (List.take_sublist _ _) h, List.pairwise_cons.2 ⟨h2, List.Pairwise.sublist (List.drop_sublist _ _) h⟩, fun x hx y hy => ?_⟩
  rcases List.mem_cons.1 hy with rfl | hy
  · exact h1 x hx
  · have := h1 x hx; have := h2 y hy; omega
set_option maxRecDepth 100000 in
set_option maxHeartbeats 6400000 in
theorem rising_at (xs : List Int) (A : Option Addr) (n c : Nat) (w : World) (HR : ReadsInt w .u64 A n xs) (hn : n * 8 ≤ 140737488355328) :
    Calls Try.prog 28 #[.slice A n c] w fun e w' => ∃ (q : Nat) (Ks : List Int), q ≤ 200 ∧ Up Ks ∧ N1 w w' e false q q Ks (places q) := by
  obtain ⟨w1, hw1, b1, f1, s1⟩ := made w #[.bool false, .slice none 0 0, .slice none 0 0] 24
  obtain ⟨w2, hw2, b2, f2, s2⟩ := made w1 #[.bool false, .slice none 0 0, .slice none 0 0] 24
  obtain ⟨w3, hw3⟩ : ∃ w3, w2.setRow w1.heap.size #[.bool false, .slice none 0 0, .slice none 0 0] = w3 := ⟨_, rfl⟩
  have R2 := Lib.hid f2
  have hsz : w3.heap.size = w2.heap.size := by rw [← hw3]; simp only [World.setRow, Array.size_modify]
  have ST3 := Lib.hid (show St w w3.heap.size w1.heap.size 24 25 #[.bool false, .slice none 0 0, .slice none 0 0] [(w.heap.size, .cells #[.bool false, .slice none 0 0, .slice none 0 0] 24)] (.slice none 0 0) (.slice none 0 0) 0 0 [] [] w3 from by
    refine ⟨own_nil _ _ _ _, own_nil _ _ _ _, fun p hp => by simp [Value.ownBlock] at hp, ?_, ?_, ?_, by omega, Nat.le_refl _, by omega⟩
    · rw [← hw3]; exact setRow_heap _ _ _ _ _ _ f2
    · intro p hp
      obtain rfl := List.mem_singleton.1 hp
      refine ⟨?_, by show w.heap.size < _; omega, by show w.heap.size ≠ _; omega⟩
      show w3.heap[w.heap.size]? = _
      rw [← hw3, setRow_other _ _ _ _ (by omega)]; exact keep_row f1 b2
    · rw [← hw3]; exact below_setRow (below_then' b1 b2) (by omega) _)
  have X3 := Lib.hid HR
  have SZ := Lib.hid (show w.heap.size < w3.heap.size by omega)
  have HN := Lib.hid hn
  clear b1 f1 s1 b2 f2 s2 HR hn hsz
  go_enter Try.func28, Try.ntmps28
  go_wp2_with ((with_reducible refine wpList_store_row rfl 24 (.tmp 3) (.tmp 8) rfl w1.heap.size #[.bool false, .slice none 0 0, .slice none 0 0] ?_ ?_ 24 _ R2.out (size3 _ _ _) ?_ (one3 _ _ _ _ _ _ _) ?_); rfl; rfl; rfl; rw [hw3])
  clear hw1 hw2 hw3
  go_loopw [11] (fun iv wr => ∃ (i q c1 : Nat) (A1 : Option Addr) (KS : List Int), i ≤ n ∧ q ≤ i ∧ i ≤ 200 ∧ KS.length = q ∧ Up KS ∧ iv = .int .i64 (i : Int) ∧ St w w3.heap.size w1.heap.size 24 25 #[.bool false, .slice A1 q c1, .slice none 0 0] [(w.heap.size, .cells #[.bool false, .slice none 0 0, .slice none 0 0] 24)] (.slice A1 q c1) (.slice none 0 0) q 0 KS [] wr) (fun iv _ => n - (intOf iv).toNat)
  case atStart => exact ⟨0, 0, 0, none, [], by omega, by omega, by omega, rfl, List.Pairwise.nil, rfl, ST3.out⟩
  case round =>
    obtain ⟨i, q, c1, A1, KS, hi, hqi, hi2, hkl, hup, rfl, hst⟩ := hrel
    have ST6 := Lib.hid hst
    have HKL := Lib.hid hkl
    have HUP := Lib.hid hup
    have hn47 : n ≤ 17592186044416 := by have := HN.out; omega
    have x1 : wr.cell? ⟨w1.heap.size, 1, none⟩ = some (.slice A1 q c1) := cell_row ST6.out.node rfl
    have hqc := own_cap ST6.out.ok
    clear hst hkl hup
    by_cases hlt : i < n
    · by_cases h200 : i = 200
      · have d200 : ((i : Int) == 200) = true := by simp; omega
        obtain ⟨ad, rfl, hc⟩ := cell_at (X3.out.below ST6.out.bel) i hlt
        have HQ := Lib.hid (show q ≤ 200 by omega)
        clear hi hqi hi2 h200
        go_wp2_with fail
        obtain ⟨wb, rfl⟩ : ∃ x, x = wr := ⟨wr, rfl⟩
        go_loopw [66] (fun iv wq => ∃ (j c2 : Nat) (A2 : Option Addr), j ≤ q ∧ iv = .int .i64 (j : Int) ∧ St w w3.heap.size w1.heap.size 24 25 #[.bool false, .slice A1 q c1, .slice A2 j c2] [(w.heap.size, .cells #[.bool false, .slice none 0 0, .slice none 0 0] 24)] (.slice A1 q c1) (.slice A2 j c2) q j KS (places j) wq) (fun iv _ => q - (intOf iv).toNat)
        case atStart => exact ⟨0, 0, none, by omega, rfl, ST6.out⟩
        case round =>
          obtain ⟨j, c2, A2, hj, rfl, hst⟩ := hrel
          have ST7 := Lib.hid hst
          clear hst
          by_cases hjq : j < q
          · have HJQ := Lib.hid hjq
            have x2 : wr.cell? ⟨w1.heap.size, 2, none⟩ = some (.slice A2 j c2) := cell_row ST7.out.node rfl
            have hj200 : j < 200 := by have := HQ.out; omega
            clear hj
            go_wp2_with (at_builtin; go_loud (refine print_append_num (w0 := wr) (W := wr) w3.heap.size rfl (.tmp 70) (.tmp 74) 22 25 .u64 8 rfl Try.underlying22 info64 (by omega) (.slice A2 j c2) (places j) ((j : Int) + 1) rfl rfl (by rw [places_len]; exact ST7.out.ov) (Below.refl _ _) ST7.out.le (by rw [places_len]; omega) ?_))
            intro v8 w8 hown hB hg hat
            obtain ⟨A8, c8, rfl⟩ := own_slice hown
            have hpl : places j ++ [(j : Int) + 1] = places (j + 1) := by rw [places_succ]; push_cast; rfl
            simp only [places_len, List.length_append, List.length_cons, List.length_nil, Nat.zero_add] at hown hat ⊢
            rw [hpl] at hown
            have ST8 := Lib.hid (St_app_v ST7.out hown hg hat)
            have y2 : w8.cell? ⟨w1.heap.size, 2, none⟩ = some (.slice A2 j c2) := cell_row ST8.out.node rfl
            have z2 := blk_frozen ST8.out.node 2
            have ST9 := Lib.hid (St.put ST8.out 2 (.slice A8 (j + 1) c8) (nd' := #[.bool false, .slice A1 q c1, .slice A8 (j + 1) c8]) rfl)
            clear hown hB hg hat hpl
            go_wp2_with fail
            go_roundw
            case rel => exact ⟨j + 1, c8, A8, HJQ.out, by push_cast; rfl, ST9.out⟩
            case measure => simp [intOf]; have := HJQ.out; omega
          · obtain rfl : j = q := by omega
            have HNODE := Lib.hid ST7.out.node
            have HRES := Lib.hid (show wr.heap[w.heap.size]? = some (.cells #[.bool false, .slice none 0 0, .slice none 0 0] 24) from (ST7.out.rows _ (List.mem_singleton.2 rfl)).1)
            clear hj hjq
            go_wp2_with (first | ((with_reducible refine wpList_load_row rfl 24 (.tmp 3) rfl w1.heap.size ?_ 24 _ _ _ HNODE.out Try.underlying24 ?_ (size3 _ _ _) ?_); rfl; rfl) | ((with_reducible refine wpList_store_row rfl 24 (.tmp 2) (.tmp 78) rfl w.heap.size #[.bool false, .slice A1 j c1, .slice A2 j c2] ?_ ?_ 24 _ HRES.out (size3 _ _ _) ?_ (one3 _ _ _ _ _ _ _) ?_); rfl; rfl; rfl))
            have ho := ST7.out.ok
            have hv := ST7.out.ov
            have hk1 := mine_take ho HKL.out (Nat.le_refl j)
            have hv1 := mine_take hv (places_len j) (Nat.le_refl j)
            rw [List.take_of_length_le (by rw [HKL.out]; exact Nat.le_refl _)] at hk1
            rw [List.take_of_length_le (by rw [places_len]; exact Nat.le_refl _)] at hv1
            have hfar : Far A1 j A2 j := by
              rintro _ _ a a' rfl rfl he
              exact ST7.out.sep a.block rfl (by rw [he]; rfl)
            have hbs : w.heap.size ≤ w3.heap.size := Nat.le_of_lt SZ.out
            exact ret_c 2 rfl w.heap.size #[.bool false, .slice A1 j c1, .slice A2 j c2] (0, 0) rfl (setRow_heap _ _ _ _ _ _ HRES.out) rfl rfl ⟨j, KS, HQ.out, HUP.out, A1, c1, A2, c2, rfl, own2_weaken (own2_setRow ⟨hk1, hv1, hfar, own_cap ho, own_cap hv, own_nilc ho, own_nilc hv⟩ SZ.out _) hbs, below_setRow ST7.out.bel (Nat.le_refl _) _⟩
      · have d200 : ((i : Int) == 200) = false := by simp; omega
        obtain ⟨ad, rfl, hc⟩ := cell_at (X3.out.below ST6.out.bel) i hlt
        obtain ⟨kx, hkx⟩ : ∃ k, xs.getD i 0 = k := ⟨_, rfl⟩
        rw [hkx] at hc
        have HI := Lib.hid (show i < n ∧ q ≤ i ∧ i < 200 by omega)
        have hi200 : i < 200 := by omega
        have hq200 : q < 201 := by omega
        clear hkx hi hqi hi2 h200
        go_wp2_with fail
        clear hlt
        go_loop [6] (fun av_ => ∃ a : Nat, a ≤ q ∧ Low KS a kx ∧ av_ = .int .i64 (a : Int)) (fun av_ => q - (intOf av_).toNat)
        case atStart => exact ⟨0, by omega, fun j hj => absurd hj (by omega), rfl⟩
        case round =>
          obtain ⟨a, ha, hlow, rfl⟩ := hrel
          have HAQ := Lib.hid ha
          have HLOW := Lib.hid hlow
          clear hlow
          by_cases hla : a < q
          · obtain ⟨g, cap, he, hg, -⟩ := ST6.out.ok.form (by omega)
            injection he with he1 he2 he3
            subst he1
            obtain ⟨x, hx⟩ : ∃ x, KS.getD a 0 = x := ⟨_, rfl⟩
            have hcx : wr.cell? ⟨g, a, none⟩ = some (.int .u64 x) := own_cell ST6.out.ok a x hla (by rw [← hx, List.getD_eq_getElem?_getD, List.getElem?_eq_getElem (by rw [HKL.out]; exact hla)]; rfl)
            have dq : decide ((a : Int) < (q : Int)) = true := decide_eq_true (by omega)
            have dq' : decide (a < q) = true := decide_eq_true hla
            have HLA := Lib.hid hla
            have HX := Lib.hid hx
            clear he2 he3 hg hx ha
            by_cases hxk : x < kx
            · have dx : decide (x < kx) = true := decide_eq_true hxk
              have HLN := Lib.hid (low_succ HLOW.out HX.out hxk)
              clear hxk
              go_wp2_with fail
              go_round
              case rel => exact ⟨a + 1, HLA.out, HLN.out, by push_cast; rfl⟩
              case measure => simp [intOf]; have := HLA.out; omega
            · have dx : decide (x < kx) = false := decide_eq_false hxk
              by_cases hxe : x = kx
              · have de : (x == kx) = true := by simp [hxe]
                clear hxk hxe
                go_wp2_with fail
                go_roundw
                case rel => exact ⟨i + 1, q, c1, some ⟨g, 0, none⟩, KS, by have := HI.out; omega, by have := HI.out; omega, HI.out.2.2, HKL.out, HUP.out, by push_cast; rfl, ST6.out⟩
                case measure => simp [intOf]; have := HI.out; omega
              · have de : (x == kx) = false := by simp [hxe]
                have HUPN := Lib.hid (up_ins HUP.out HLOW.out (fun _ => by rw [HX.out]; omega))
                clear hxk hxe
                obtain ⟨AD, d, cd, hd, hcut, hrd, hnn⟩ := cut_row ST6.out.ok HKL.out HAQ.out
                have Sd := Lib.hid (St.drew ST6.out)
                have Sa := Lib.hid (St.alloc Sd.out (.cells #[.int .u64 kx] 25))
                obtain ⟨B1, e1, W2, B2, e2, W3, r2, r3, o3, hp3, bb2, bb3⟩ := ins_rows (W := wr.drew) (key := kx) Sd.out.ok HKL.out HAQ.out hd hrd hnn Sd.out.le (by omega)
                have RX2 := Lib.hid r2
                have RX3 := Lib.hid r3
                have BB2 := Lib.hid bb2
                have BB3 := Lib.hid bb3
                have ST8 := Lib.hid (St_new_k Sd.out bb3 o3 hp3)
                have HLEN := Lib.hid (show (KS.take a ++ kx :: KS.drop a).length = q + 1 by rw [List.length_append, List.length_take, List.length_cons, List.length_drop, HKL.out]; have := HAQ.out; omega)
                have hac : (a : Int) ≤ (c1 : Int) := by have := HAQ.out; omega
                have hac' : a ≤ c1 := by omega
                clear hd hrd hnn r2 r3 o3 hp3 bb2 bb3
                go_wp2_with fail
                refine start_ (n := 15) (S := fun w' => w'.cell? ⟨w1.heap.size, 1, none⟩ = some (.slice (some ⟨g, 0, none⟩) q c1)) (ds := [14]) #[false, false, false, false, false, false, false, false, false, false, false, false, false, false, false] (by kernel_rfl) rfl rfl (cell_row Sd.out.node rfl) (fun hHeld => ?_)
                refine pure_ (i := 0) (N := some 48) (v := ?_) (a' := ?_) #[true, false, false, false, false, false, false, false, false, false, false, false, false, false, false] rfl rfl (by kernel_rfl) (fun _ _ _ h => h) (Or.inl ⟨by rfl, ?_⟩) ?_ ?_
                rotate_left
                · intro w'
                  go_simp
                  with_reducible rfl
                rotate_left
                · simp only [Act.put, List.setIfInBounds_toArray, List.set_cons_zero, List.set_cons_succ, i64_w, i32_w]
                  rfl
                refine pure_ (i := 2) (N := some 50) (v := ?_) (a' := ?_) #[true, false, true, false, false, false, false, false, false, false, false, false, false, false, false] rfl rfl (by kernel_rfl) (fun _ _ _ h => h) (Or.inl ⟨by rfl, ?_⟩) ?_ ?_
                rotate_left
                · intro w'
                  go_simp
                  with_reducible rfl
                rotate_left
                · simp only [Act.put, List.setIfInBounds_toArray, List.set_cons_zero, List.set_cons_succ, i64_w, i32_w]
                  rfl
                refine pure_ (i := 3) (N := some 51) (v := ?_) (a' := ?_) #[true, false, true, true, false, false, false, false, false, false, false, false, false, false, false] rfl rfl (by kernel_rfl) (fun _ _ _ h => h) (Or.inl ⟨by rfl, ?_⟩) ?_ ?_
                rotate_left
                · intro w'
                  go_simp
                  with_reducible rfl
                rotate_left
                · simp only [Act.put, List.setIfInBounds_toArray, List.set_cons_zero, List.set_cons_succ, i64_w, i32_w]
                  rfl
                refine pure_ (i := 5) (N := some 53) (v := ?_) (a' := ?_) #[true, false, true, true, false, true, false, false, false, false, false, false, false, false, false] rfl rfl (by kernel_rfl) (fun _ _ _ h => h) (Or.inl ⟨by rfl, ?_⟩) ?_ ?_
                rotate_left
                · intro w'
                  go_simp
                  with_reducible rfl
                rotate_left
                · simp only [Act.put, List.setIfInBounds_toArray, List.set_cons_zero, List.set_cons_succ, i64_w, i32_w]
                  rfl
                refine pure_ (i := 7) (N := some 55) (v := ?_) (a' := ?_) #[true, false, true, true, false, true, false, true, false, false, false, false, false, false, false] rfl rfl (by kernel_rfl) (fun _ _ _ h => h) (Or.inl ⟨by rfl, ?_⟩) ?_ ?_
                rotate_left
                · intro w'
                  go_simp
                  with_reducible rfl
                rotate_left
                · simp only [Act.put, List.setIfInBounds_toArray, List.set_cons_zero, List.set_cons_succ, i64_w, i32_w]
                  rfl
                refine pure_ (i := 9) (N := some 57) (v := ?_) (a' := ?_) #[true, false, true, true, false, true, false, true, false, true, false, false, false, false, false] rfl rfl (by kernel_rfl) (fun _ _ _ h => h) (Or.inl ⟨by rfl, ?_⟩) ?_ ?_
                rotate_left
                · intro w'
                  go_simp
                  with_reducible rfl
                rotate_left
                · simp only [Act.put, List.setIfInBounds_toArray, List.set_cons_zero, List.set_cons_succ, i64_w, i32_w]
                  rfl
                refine take_ (i := 1) (N := some 49) (v := ?_) (a' := ?_) #[true, true, true, true, false, true, false, true, false, true, false, false, false, false, false] rfl rfl (by kernel_rfl) (fun _ _ _ h => h) (Or.inl ⟨by rfl, ?_⟩) hHeld ?_ ?_
                rotate_left
                · intro w' s0
                  go_simp
                  with_reducible rfl
                rotate_left
                · simp only [Act.put, List.setIfInBounds_toArray, List.set_cons_zero, List.set_cons_succ, i64_w, i32_w]
                  rfl
                refine pure_ (i := 4) (N := some 52) (v := ?_) (a' := ?_) #[true, true, true, true, true, true, false, true, false, true, false, false, false, false, false] rfl rfl (by kernel_rfl) (fun _ _ _ h => h) (Or.inl ⟨by rfl, ?_⟩) ?_ ?_
                rotate_left
                · intro w'
                  go_simp
                  with_reducible rfl
                rotate_left
                · simp only [Act.put, List.setIfInBounds_toArray, List.set_cons_zero, List.set_cons_succ, i64_w, i32_w]
                  rfl
                refine take_ (i := 8) (N := some 56) (v := ?_) (a' := ?_) #[true, true, true, true, true, true, false, true, true, true, false, false, false, false, false] rfl rfl (by kernel_rfl) (fun _ _ _ h => h) (Or.inl ⟨by rfl, ?_⟩) hHeld ?_ ?_
                rotate_left
                · intro w' s0
                  go_simp
                  with_reducible rfl
                rotate_left
                · simp only [Act.put, List.setIfInBounds_toArray, List.set_cons_zero, List.set_cons_succ, i64_w, i32_w]
                  rfl
                refine pure_ (i := 10) (N := some 58) (v := ?_) (a' := ?_) #[true, true, true, true, true, true, false, true, true, true, true, false, false, false, false] rfl rfl (by kernel_rfl) (fun _ _ _ h => h) (Or.inl ⟨by rfl, ?_⟩) ?_ ?_
                rotate_left
                · intro w'
                  go_simp
                  with_reducible rfl
                rotate_left
                · simp only [Act.put, List.setIfInBounds_toArray, List.set_cons_zero, List.set_cons_succ, i64_w, i32_w]
                  rfl
                refine one_ (i := 6) (N := some 54) #[true, true, true, true, true, true, true, true, true, true, true, false, false, false, false] rfl rfl (by kernel_rfl) (by decide) (fun K hK => ?_)
                refine value_ (w1 := ?_) (v := ?_) (by rfl) rfl ?_ ?_
                rotate_left 2
                · go_simp
                  constructor
                  · rfl
                  · rfl
                refine hK.out _ _ (cell_row Sa.out.node rfl) (fun hHeld => ?_)
                clear hK K
                refine norm_ (a' := ?_) ?_ ?_
                rotate_left
                · show Act.put _ (some 54) _ = _
                  simp only [Act.put, List.setIfInBounds_toArray, List.set_cons_zero, List.set_cons_succ, i64_w, i32_w]
                  rfl
                refine one_ (i := 11) (N := some 59) #[true, true, true, true, true, true, true, true, true, true, true, true, false, false, false] rfl rfl (by kernel_rfl) (by decide) (fun K hK => ?_)
                refine value_ (w1 := W2) (v := .slice B1 (1 + d) e1) (by rfl) rfl (exec_app (.tmp 54) (.tmp 58) ?_ ?_ ?_ RX2.out) ?_
                · rfl
                · rfl
                · rfl
                refine hK.out _ _ (cell_row (keep_row Sd.out.node BB2.out) rfl) (fun hHeld => ?_)
                clear hK K
                refine norm_ (a' := ?_) ?_ ?_
                rotate_left
                · show Act.put _ (some 59) _ = _
                  simp only [Act.put, List.setIfInBounds_toArray, List.set_cons_zero, List.set_cons_succ, i64_w, i32_w]
                  rfl
                refine one_ (i := 12) (N := some 60) #[true, true, true, true, true, true, true, true, true, true, true, true, true, false, false] rfl rfl (by kernel_rfl) (by decide) (fun K hK => ?_)
                refine value_ (w1 := W3) (v := .slice B2 (q + 1) e2) (by rfl) rfl (exec_app (.tmp 52) (.tmp 59) ?_ ?_ ?_ RX3.out) ?_
                · rfl
                · rfl
                · rfl
                refine hK.out _ _ (cell_row ST8.out.node rfl) (fun hHeld => ?_)
                clear hK K
                refine norm_ (a' := ?_) ?_ ?_
                rotate_left
                · show Act.put _ (some 60) _ = _
                  simp only [Act.put, List.setIfInBounds_toArray, List.set_cons_zero, List.set_cons_succ, i64_w, i32_w]
                  rfl
                refine pure_ (i := 13) (N := some 61) (v := ?_) (a' := ?_) #[true, true, true, true, true, true, true, true, true, true, true, true, true, true, false] rfl rfl (by kernel_rfl) (fun _ _ _ h => h) (Or.inl ⟨by rfl, ?_⟩) ?_ ?_
                rotate_left
                · intro w'
                  go_simp
                  with_reducible rfl
                rotate_left
                · simp only [Act.put, List.setIfInBounds_toArray, List.set_cons_zero, List.set_cons_succ, i64_w, i32_w]
                  rfl
                refine last_ (i := 14) (N := none) #[true, true, true, true, true, true, true, true, true, true, true, true, true, true, true] rfl rfl (by kernel_rfl) (by decide) (fun K hK => ?_)
                obtain ⟨w9, hw9⟩ : ∃ w9, W3.setCell ⟨w1.heap.size, 1, none⟩ (.slice B2 (q + 1) e2) = w9 := ⟨_, rfl⟩
                have ST9 := Lib.hid (St.put ST8.out 1 (.slice B2 (q + 1) e2) (nd' := #[.bool false, .slice B2 (q + 1) e2, .slice none 0 0]) rfl)
                rw [hw9] at ST9
                have q8 : W3.cell? ⟨w1.heap.size, 1, none⟩ = some (.slice (some ⟨g, 0, none⟩) q c1) := cell_row ST8.out.node rfl
                have z8 : W3.frozen? ⟨w1.heap.size, 1, none⟩ = false := blk_frozen ST8.out.node 1
                refine skip_ (w1 := ?_) (by rfl) rfl ?_ ?_
                rotate_left
                · go_simp
                  rfl
                refine hK.out _ _ ?_
                clear hK K
                refine done_ (by kernel_rfl) ?_
                clear q8 z8 hw9
                go_wp2_with fail
                go_roundw
                case rel => exact ⟨i + 1, q + 1, e2, B2, KS.take a ++ kx :: KS.drop a, by have := HI.out; omega, by have := HI.out; omega, HI.out.2.2, HLEN.out, HUPN.out, by push_cast; rfl, ST9.out⟩
                case measure => simp [intOf]; have := HI.out; omega
          · obtain rfl : a = q := by omega
            have dq : decide ((a : Int) < (a : Int)) = false := by simp
            have HUPN := Lib.hid (up_ins HUP.out HLOW.out (fun h => by have := HKL.out; omega))
            clear ha hla
            obtain ⟨AD, d, cd, hd, hcut, hrd, hnn⟩ := cut_row ST6.out.ok HKL.out HAQ.out
            have Sd := Lib.hid (St.drew ST6.out)
            have Sa := Lib.hid (St.alloc Sd.out (.cells #[.int .u64 kx] 25))
            obtain ⟨B1, e1, W2, B2, e2, W3, r2, r3, o3, hp3, bb2, bb3⟩ := ins_rows (W := wr.drew) (key := kx) Sd.out.ok HKL.out HAQ.out hd hrd hnn Sd.out.le (by omega)
            have RX2 := Lib.hid r2
            have RX3 := Lib.hid r3
            have BB2 := Lib.hid bb2
            have BB3 := Lib.hid bb3
            have ST8 := Lib.hid (St_new_k Sd.out bb3 o3 hp3)
            have HLEN := Lib.hid (show (KS.take a ++ kx :: KS.drop a).length = a + 1 by rw [List.length_append, List.length_take, List.length_cons, List.length_drop, HKL.out]; have := HAQ.out; omega)
            have hac : (a : Int) ≤ (c1 : Int) := by have := HAQ.out; omega
            have hac' : a ≤ c1 := by omega
            clear hd hrd hnn r2 r3 o3 hp3 bb2 bb3
            go_wp2_with fail
            refine start_ (n := 15) (S := fun w' => w'.cell? ⟨w1.heap.size, 1, none⟩ = some (.slice A1 a c1)) (ds := [14]) #[false, false, false, false, false, false, false, false, false, false, false, false, false, false, false] (by kernel_rfl) rfl rfl (cell_row Sd.out.node rfl) (fun hHeld => ?_)
            refine pure_ (i := 0) (N := some 48) (v := ?_) (a' := ?_) #[true, false, false, false, false, false, false, false, false, false, false, false, false, false, false] rfl rfl (by kernel_rfl) (fun _ _ _ h => h) (Or.inl ⟨by rfl, ?_⟩) ?_ ?_
            rotate_left
            · intro w'
              go_simp
              with_reducible rfl
            rotate_left
            · simp only [Act.put, List.setIfInBounds_toArray, List.set_cons_zero, List.set_cons_succ, i64_w, i32_w]
              rfl
            refine pure_ (i := 2) (N := some 50) (v := ?_) (a' := ?_) #[true, false, true, false, false, false, false, false, false, false, false, false, false, false, false] rfl rfl (by kernel_rfl) (fun _ _ _ h => h) (Or.inl ⟨by rfl, ?_⟩) ?_ ?_
            rotate_left
            · intro w'
              go_simp
              with_reducible rfl
            rotate_left
            · simp only [Act.put, List.setIfInBounds_toArray, List.set_cons_zero, List.set_cons_succ, i64_w, i32_w]
              rfl
            refine pure_ (i := 3) (N := some 51) (v := ?_) (a' := ?_) #[true, false, true, true, false, false, false, false, false, false, false, false, false, false, false] rfl rfl (by kernel_rfl) (fun _ _ _ h => h) (Or.inl ⟨by rfl, ?_⟩) ?_ ?_
            rotate_left
            · intro w'
              go_simp
              with_reducible rfl
            rotate_left
            · simp only [Act.put, List.setIfInBounds_toArray, List.set_cons_zero, List.set_cons_succ, i64_w, i32_w]
              rfl
            refine pure_ (i := 5) (N := some 53) (v := ?_) (a' := ?_) #[true, false, true, true, false, true, false, false, false, false, false, false, false, false, false] rfl rfl (by kernel_rfl) (fun _ _ _ h => h) (Or.inl ⟨by rfl, ?_⟩) ?_ ?_
            rotate_left
            · intro w'
              go_simp
              with_reducible rfl
            rotate_left
            · simp only [Act.put, List.setIfInBounds_toArray, List.set_cons_zero, List.set_cons_succ, i64_w, i32_w]
              rfl
            refine pure_ (i := 7) (N := some 55) (v := ?_) (a' := ?_) #[true, false, true, true, false, true, false, true, false, false, false, false, false, false, false] rfl rfl (by kernel_rfl) (fun _ _ _ h => h) (Or.inl ⟨by rfl, ?_⟩) ?_ ?_
            rotate_left
            · intro w'
              go_simp
              with_reducible rfl
            rotate_left
            · simp only [Act.put, List.setIfInBounds_toArray, List.set_cons_zero, List.set_cons_succ, i64_w, i32_w]
              rfl
            refine pure_ (i := 9) (N := some 57) (v := ?_) (a' := ?_) #[true, false, true, true, false, true, false, true, false, true, false, false, false, false, false] rfl rfl (by kernel_rfl) (fun _ _ _ h => h) (Or.inl ⟨by rfl, ?_⟩) ?_ ?_
            rotate_left
            · intro w'
              go_simp
              with_reducible rfl
            rotate_left
            · simp only [Act.put, List.setIfInBounds_toArray, List.set_cons_zero, List.set_cons_succ, i64_w, i32_w]
              rfl
            refine take_ (i := 1) (N := some 49) (v := ?_) (a' := ?_) #[true, true, true, true, false, true, false, true, false, true, false, false, false, false, false] rfl rfl (by kernel_rfl) (fun _ _ _ h => h) (Or.inl ⟨by rfl, ?_⟩) hHeld ?_ ?_
            rotate_left
            · intro w' s0
              go_simp
              with_reducible rfl
            rotate_left
            · simp only [Act.put, List.setIfInBounds_toArray, List.set_cons_zero, List.set_cons_succ, i64_w, i32_w]
              rfl
            refine pure_ (i := 4) (N := some 52) (v := ?_) (a' := ?_) #[true, true, true, true, true, true, false, true, false, true, false, false, false, false, false] rfl rfl (by kernel_rfl) (fun _ _ _ h => h) (Or.inl ⟨by rfl, ?_⟩) ?_ ?_
            rotate_left
            · intro w'
              go_simp
              with_reducible rfl
            rotate_left
            · simp only [Act.put, List.setIfInBounds_toArray, List.set_cons_zero, List.set_cons_succ, i64_w, i32_w]
              rfl
            refine take_ (i := 8) (N := some 56) (v := ?_) (a' := ?_) #[true, true, true, true, true, true, false, true, true, true, false, false, false, false, false] rfl rfl (by kernel_rfl) (fun _ _ _ h => h) (Or.inl ⟨by rfl, ?_⟩) hHeld ?_ ?_
            rotate_left
            · intro w' s0
              go_simp
              with_reducible rfl
            rotate_left
            · simp only [Act.put, List.setIfInBounds_toArray, List.set_cons_zero, List.set_cons_succ, i64_w, i32_w]
              rfl
            refine pure_ (i := 10) (N := some 58) (v := ?_) (a' := ?_) #[true, true, true, true, true, true, false, true, true, true, true, false, false, false, false] rfl rfl (by kernel_rfl) (fun _ _ _ h => h) (Or.inl ⟨by rfl, ?_⟩) ?_ ?_
            rotate_left
            · intro w'
              go_simp
              with_reducible rfl
            rotate_left
            · simp only [Act.put, List.setIfInBounds_toArray, List.set_cons_zero, List.set_cons_succ, i64_w, i32_w]
              rfl
            refine one_ (i := 6) (N := some 54) #[true, true, true, true, true, true, true, true, true, true, true, false, false, false, false] rfl rfl (by kernel_rfl) (by decide) (fun K hK => ?_)
            refine value_ (w1 := ?_) (v := ?_) (by rfl) rfl ?_ ?_
            rotate_left 2
            · go_simp
              constructor
              · rfl
              · rfl
            refine hK.out _ _ (cell_row Sa.out.node rfl) (fun hHeld => ?_)
            clear hK K
            refine norm_ (a' := ?_) ?_ ?_
            rotate_left
            · show Act.put _ (some 54) _ = _
              simp only [Act.put, List.setIfInBounds_toArray, List.set_cons_zero, List.set_cons_succ, i64_w, i32_w]
              rfl
            refine one_ (i := 11) (N := some 59) #[true, true, true, true, true, true, true, true, true, true, true, true, false, false, false] rfl rfl (by kernel_rfl) (by decide) (fun K hK => ?_)
            refine value_ (w1 := W2) (v := .slice B1 (1 + d) e1) (by rfl) rfl (exec_app (.tmp 54) (.tmp 58) ?_ ?_ ?_ RX2.out) ?_
            · rfl
            · rfl
            · rfl
            refine hK.out _ _ (cell_row (keep_row Sd.out.node BB2.out) rfl) (fun hHeld => ?_)
            clear hK K
            refine norm_ (a' := ?_) ?_ ?_
            rotate_left
            · show Act.put _ (some 59) _ = _
              simp only [Act.put, List.setIfInBounds_toArray, List.set_cons_zero, List.set_cons_succ, i64_w, i32_w]
              rfl
            refine one_ (i := 12) (N := some 60) #[true, true, true, true, true, true, true, true, true, true, true, true, true, false, false] rfl rfl (by kernel_rfl) (by decide) (fun K hK => ?_)
            refine value_ (w1 := W3) (v := .slice B2 (a + 1) e2) (by rfl) rfl (exec_app (.tmp 52) (.tmp 59) ?_ ?_ ?_ RX3.out) ?_
            · rfl
            · rfl
            · rfl
            refine hK.out _ _ (cell_row ST8.out.node rfl) (fun hHeld => ?_)
            clear hK K
            refine norm_ (a' := ?_) ?_ ?_
            rotate_left
            · show Act.put _ (some 60) _ = _
              simp only [Act.put, List.setIfInBounds_toArray, List.set_cons_zero, List.set_cons_succ, i64_w, i32_w]
              rfl
            refine pure_ (i := 13) (N := some 61) (v := ?_) (a' := ?_) #[true, true, true, true, true, true, true, true, true, true, true, true, true, true, false] rfl rfl (by kernel_rfl) (fun _ _ _ h => h) (Or.inl ⟨by rfl, ?_⟩) ?_ ?_
            rotate_left
            · intro w'
              go_simp
              with_reducible rfl
            rotate_left
            · simp only [Act.put, List.setIfInBounds_toArray, List.set_cons_zero, List.set_cons_succ, i64_w, i32_w]
              rfl
            refine last_ (i := 14) (N := none) #[true, true, true, true, true, true, true, true, true, true, true, true, true, true, true] rfl rfl (by kernel_rfl) (by decide) (fun K hK => ?_)
            obtain ⟨w9, hw9⟩ : ∃ w9, W3.setCell ⟨w1.heap.size, 1, none⟩ (.slice B2 (a + 1) e2) = w9 := ⟨_, rfl⟩
            have ST9 := Lib.hid (St.put ST8.out 1 (.slice B2 (a + 1) e2) (nd' := #[.bool false, .slice B2 (a + 1) e2, .slice none 0 0]) rfl)
            rw [hw9] at ST9
            have q8 : W3.cell? ⟨w1.heap.size, 1, none⟩ = some (.slice A1 a c1) := cell_row ST8.out.node rfl
            have z8 : W3.frozen? ⟨w1.heap.size, 1, none⟩ = false := blk_frozen ST8.out.node 1
            refine skip_ (w1 := ?_) (by rfl) rfl ?_ ?_
            rotate_left
            · go_simp
              rfl
            refine hK.out _ _ ?_
            clear hK K
            refine done_ (by kernel_rfl) ?_
            clear q8 z8 hw9
            go_wp2_with fail
            go_roundw
            case rel => exact ⟨i + 1, a + 1, e2, B2, KS.take a ++ kx :: KS.drop a, by have := HI.out; omega, by have := HI.out; omega, HI.out.2.2, HLEN.out, HUPN.out, by push_cast; rfl, ST9.out⟩
            case measure => simp [intOf]; have := HI.out; omega
    · obtain rfl : i = n := by omega
      have HQ := Lib.hid (show q ≤ 200 by omega)
      clear hi hqi hi2 hlt
      go_wp2_with fail
      obtain ⟨wb, rfl⟩ : ∃ x, x = wr := ⟨wr, rfl⟩
      go_loopw [66] (fun iv wq => ∃ (j c2 : Nat) (A2 : Option Addr), j ≤ q ∧ iv = .int .i64 (j : Int) ∧ St w w3.heap.size w1.heap.size 24 25 #[.bool false, .slice A1 q c1, .slice A2 j c2] [(w.heap.size, .cells #[.bool false, .slice none 0 0, .slice none 0 0] 24)] (.slice A1 q c1) (.slice A2 j c2) q j KS (places j) wq) (fun iv _ => q - (intOf iv).toNat)
      case atStart => exact ⟨0, 0, none, by omega, rfl, ST6.out⟩
      case round =>
        obtain ⟨j, c2, A2, hj, rfl, hst⟩ := hrel
        have ST7 := Lib.hid hst
        clear hst
        by_cases hjq : j < q
        · have HJQ := Lib.hid hjq
          have x2 : wr.cell? ⟨w1.heap.size, 2, none⟩ = some (.slice A2 j c2) := cell_row ST7.out.node rfl
          have hj200 : j < 200 := by have := HQ.out; omega
          clear hj
          go_wp2_with (at_builtin; go_loud (refine print_append_num (w0 := wr) (W := wr) w3.heap.size rfl (.tmp 70) (.tmp 74) 22 25 .u64 8 rfl Try.underlying22 info64 (by omega) (.slice A2 j c2) (places j) ((j : Int) + 1) rfl rfl (by rw [places_len]; exact ST7.out.ov) (Below.refl _ _) ST7.out.le (by rw [places_len]; omega) ?_))
          intro v8 w8 hown hB hg hat
          obtain ⟨A8, c8, rfl⟩ := own_slice hown
          have hpl : places j ++ [(j : Int) + 1] = places (j + 1) := by rw [places_succ]; push_cast; rfl
          simp only [places_len, List.length_append, List.length_cons, List.length_nil, Nat.zero_add] at hown hat ⊢
          rw [hpl] at hown
          have ST8 := Lib.hid (St_app_v ST7.out hown hg hat)
          have y2 : w8.cell? ⟨w1.heap.size, 2, none⟩ = some (.slice A2 j c2) := cell_row ST8.out.node rfl
          have z2 := blk_frozen ST8.out.node 2
          have ST9 := Lib.hid (St.put ST8.out 2 (.slice A8 (j + 1) c8) (nd' := #[.bool false, .slice A1 q c1, .slice A8 (j + 1) c8]) rfl)
          clear hown hB hg hat hpl
          go_wp2_with fail
          go_roundw
          case rel => exact ⟨j + 1, c8, A8, HJQ.out, by push_cast; rfl, ST9.out⟩
          case measure => simp [intOf]; have := HJQ.out; omega
        · obtain rfl : j = q := by omega
          have HNODE := Lib.hid ST7.out.node
          have HRES := Lib.hid (show wr.heap[w.heap.size]? = some (.cells #[.bool false, .slice none 0 0, .slice none 0 0] 24) from (ST7.out.rows _ (List.mem_singleton.2 rfl)).1)
          clear hj hjq
          go_wp2_with (first | ((with_reducible refine wpList_load_row rfl 24 (.tmp 3) rfl w1.heap.size ?_ 24 _ _ _ HNODE.out Try.underlying24 ?_ (size3 _ _ _) ?_); rfl; rfl) | ((with_reducible refine wpList_store_row rfl 24 (.tmp 2) (.tmp 78) rfl w.heap.size #[.bool false, .slice A1 j c1, .slice A2 j c2] ?_ ?_ 24 _ HRES.out (size3 _ _ _) ?_ (one3 _ _ _ _ _ _ _) ?_); rfl; rfl; rfl))
          have ho := ST7.out.ok
          have hv := ST7.out.ov
          have hk1 := mine_take ho HKL.out (Nat.le_refl j)
          have hv1 := mine_take hv (places_len j) (Nat.le_refl j)
          rw [List.take_of_length_le (by rw [HKL.out]; exact Nat.le_refl _)] at hk1
          rw [List.take_of_length_le (by rw [places_len]; exact Nat.le_refl _)] at hv1
          have hfar : Far A1 j A2 j := by
            rintro _ _ a a' rfl rfl he
            exact ST7.out.sep a.block rfl (by rw [he]; rfl)
          have hbs : w.heap.size ≤ w3.heap.size := Nat.le_of_lt SZ.out
          exact ret_c 2 rfl w.heap.size #[.bool false, .slice A1 j c1, .slice A2 j c2] (0, 0) rfl (setRow_heap _ _ _ _ _ _ HRES.out) rfl rfl ⟨j, KS, HQ.out, HUP.out, A1, c1, A2, c2, rfl, own2_weaken (own2_setRow ⟨hk1, hv1, hfar, own_cap ho, own_cap hv, own_nilc ho, own_nilc hv⟩ SZ.out _) hbs, below_setRow ST7.out.bel (Nat.le_refl _) _⟩
end Go.Proofs.Ytdekplalhfpooaa.Knt
