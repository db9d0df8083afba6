/- The walk of the law NodeTakes: the call returns true, nothing that was there is changed. -/
import Derived.Test.YtdekplalhfpooaaNodK
set_option linter.unusedVariables false
set_option linter.unusedSimpArgs false
namespace Go.Proofs.Ytdekplalhfpooaa.Nod
open Go Go.RowKit Go.Proofs.YtdekplalhfpooaaW.PrintWords Go.Proofs.YtdekplalhfpooaaW.PrintLast Go.Proofs.YtdekplalhfpooaaW.PrintMore Base Odr Hlp

theorem goN_len : ∀ (n : Nat) (r K V : List Int), K.length = V.length → (goN n r K V).K.length = (goN n r K V).V.length := by
  intro n
  induction n with
  | zero => intro r K V h; exact h
  | succ n ih =>
    intro r K V h
    unfold goN stV
    split
    · rfl
    · split
      · rfl
      · split
        · rfl
        · split
          · rfl
          · exact ih _ _ _ (by simp [h])
theorem take_len (b : List Int) : (takeN b).K.length = (takeN b).V.length := by
  unfold takeN
  split
  · rfl
  · split
    · rfl
    · split
      · rfl
      · split
        · rfl
        · unfold endN
          split
          · rfl
          · split
            · exact goN_len _ _ _ _ rfl
            · rfl
theorem own_block {w : World} {base n c : Nat} {e : TypeId} {size : Nat} {A : Option Addr} {xs : List Value} (h : w.ownsRow base e size (.slice A n c) n xs) : ∀ a, A = some a → base ≤ a.block ∧ a.block < w.heap.size := by
  intro a ha
  subst ha
  have hb : (Value.slice (some a) n c).ownBlock = some a.block := rfl
  exact ⟨own_base h _ hb, own_lt h _ hb⟩
theorem reads_keep {w w' : World} {k : IntKind} {A : Option Addr} {n : Nat} {xs : List Int} {P : Nat → Prop} (h : ReadsInt w k A n xs) (hk : ∀ g, P g → w'.heap[g]? = w.heap[g]?) (hA : ∀ a, A = some a → P a.block) : ReadsInt w' k A n xs := by
  refine ⟨h.1, h.2.1, fun hn => ?_⟩
  obtain ⟨a, e, hc⟩ := h.2.2 hn
  refine ⟨a, e, fun j hj => ?_⟩
  have hb : (a.add j).block = a.block := by unfold Addr.add; split <;> rfl
  rw [World.cell?_of_block (w := w) (w' := w') (by rw [hb]; exact hk _ (hA a e))]
  exact hc j hj

set_option maxRecDepth 100000 in
set_option maxHeartbeats 6400000 in
theorem takes_walk (A : Option Addr) (c : Nat) (l : List Int) (w : World) (hr : ReadsInt w .u8 A l.length l) (hl : l.length * 1 ≤ 140737488351232) (hw : ∀ x ∈ l, (Lit.int .u8 x).wf = true) (hc : l.length ≤ c) :
    Calls Try.prog 7 #[.slice A l.length c] w fun e w' => e = .returned (.bool true) ∧ Below w.heap.size w w' := by
  have HR := Lib.hid hr
  have HW := Lib.hid hw
  have HC := Lib.hid hc
  obtain ⟨er, L, K, V, hT⟩ : ∃ er L K V, takeN l = ⟨er, L, K, V⟩ := ⟨_, _, _, _, rfl⟩
  obtain ⟨nk, hnk⟩ : ∃ m, K.length = m := ⟨_, rfl⟩
  obtain ⟨nv, hnv⟩ : ∃ m, V.length = m := ⟨_, rfl⟩
  have hkv : nk = nv := by have := take_len l; rw [hT] at this; rw [← hnk, ← hnv]; exact this
  have TT := Lib.hid hT
  have NK := Lib.hid hnk
  have NV := Lib.hid hnv
  have KV := Lib.hid hkv
  have MK := Lib.hid (show nk ≤ 8 ∨ True from .inr trivial)
  obtain ⟨n, hn⟩ : ∃ n, n = l.length := ⟨_, rfl⟩
  rw [← hn] at HR HC hl ⊢
  have HN := Lib.hid hn
  have hee : (er != er) = false := by simp
  have hee2 : (er == er) = true := by simp
  clear hr hw hc hn hT hnk hnv hkv MK
  go_enter Try.func7, Try.ntmps7
  go_wp2_with (at_builtin; refine print_append_row (w0 := w) w.heap.size rfl _ _ 41 5 .u8 1 rfl Try.underlying41 info8 (by omega) (.slice (some ⟨w.heap.size, 0, none⟩) 0 0) [] l A n c rfl rfl (own_lit w w.heap.size 5 .u8 [] (Nat.le_refl _) (by simp)) (ReadsInt.below HR.out ((Below.refl _ _).alloc (Nat.le_refl _) _)) ((Below.refl _ _).alloc (Nat.le_refl _) _) (by simp) (by simp; omega) ?_)
  intro v1 w1 hown hb hg hat
  have hown' : w1.ownsRow w.heap.size 5 1 v1 n (nums .u8 l) := by rw [HN.out]; simpa using hown
  obtain ⟨A1, c1, rfl⟩ := own_slice hown'
  have C1 := Lib.hid (own_cap hown')
  have R1 := Lib.hid (reads_own_of hown' HN.out.symm rfl)
  have G1 := Lib.hid (fun a ha => (own_block hown' a ha).2)
  have B1 := Lib.hid hb
  clear hown hown' hb hg hat
  go_wp2_with fail
  refine (take_at l _ R1.out HW.out C1.out TT.out NK.out NV.out).mono ?_; rintro e w2 ⟨A2, c2, A3, c3, rfl, ho1, ho2, hsep, hb⟩
  obtain ⟨w3, hw3, b3, f3, s3⟩ := made w2 #[.bool false, .slice none 0 0, .slice none 0 0] 24
  obtain ⟨w4, hw4⟩ : ∃ w4, w3.setRow w2.heap.size #[.bool L, .slice A2 nk c2, .slice A3 nv c3] = w4 := ⟨_, rfl⟩
  have F3 := Lib.hid f3
  have N4 := Lib.hid (show w4.heap[w2.heap.size]? = some (.cells #[.bool L, .slice A2 nk c2, .slice A3 nv c3] 24) by rw [← hw4]; exact setRow_heap _ _ _ _ _ _ f3)
  have S4 := Lib.hid (show w4.heap.size = w2.heap.size + 1 ∧ w1.heap.size ≤ w2.heap.size by refine ⟨?_, hb.size⟩; rw [← hw4]; simp only [World.setRow, Array.size_modify]; exact s3)
  have D4 := Lib.hid (show Below w1.heap.size w1 w4 by rw [← hw4]; exact below_setRow (below_then hb hb.size b3) hb.size _)
  have O14 := Lib.hid (show w4.ownsRow w1.heap.size 25 1 (.slice A2 nk c2) nk (nums .u64 K) by rw [← hw4]; exact own_setRow (pw_own_below ho1 b3) (fun he => by have := own_lt ho1 _ he.symm; omega) _)
  have O24 := Lib.hid (show w4.ownsRow w1.heap.size 25 1 (.slice A3 nv c3) nv (nums .u64 V) by rw [← hw4]; exact own_setRow (pw_own_below ho2 b3) (fun he => by have := own_lt ho2 _ he.symm; omega) _)
  have G2 := Lib.hid (fun a ha => own_block ho1 a ha)
  have G3 := Lib.hid (fun a ha => own_block ho2 a ha)
  have SP := Lib.hid hsep
  have R4 := Lib.hid (ReadsInt.below R1.out D4.out)
  have B4 := Lib.hid (below_then B1.out B1.out.size D4.out)
  clear ho1 ho2 hsep hb b3 f3 s3
  go_wp2_with ((with_reducible refine wpList_store_row rfl 24 (.tmp 4) (.tmp 17) rfl w2.heap.size #[.bool L, .slice A2 nk c2, .slice A3 nv c3] ?_ ?_ 24 _ F3.out (size3 _ _ _) ?_ (one3 _ _ _ _ _ _ _) ?_); rfl; rfl; rfl; rw [hw4])
  clear hw4 hw3 F3
  refine (rtake_at l _ (ReadsInt.below HR.out B4.out) HW.out HC.out TT.out NK.out NV.out).mono ?_; rintro e w5 ⟨A4, c4, A5, c5, rfl, ho1, ho2, -, hb⟩
  obtain ⟨w6, hw6, b6, f6, s6⟩ := made w5 #[.bool false, .slice none 0 0, .slice none 0 0] 24
  obtain ⟨w7, hw7⟩ : ∃ w7, w6.setRow w5.heap.size #[.bool L, .slice A4 nk c4, .slice A5 nv c5] = w7 := ⟨_, rfl⟩
  have F6 := Lib.hid f6
  have M7 := Lib.hid (show w7.heap[w5.heap.size]? = some (.cells #[.bool L, .slice A4 nk c4, .slice A5 nv c5] 24) by rw [← hw7]; exact setRow_heap _ _ _ _ _ _ f6)
  have D7 := Lib.hid (show Below w4.heap.size w4 w7 by rw [← hw7]; exact below_setRow (below_then hb hb.size b6) hb.size _)
  have S7 := Lib.hid (show w7.heap.size = w5.heap.size + 1 ∧ w4.heap.size ≤ w5.heap.size by refine ⟨?_, hb.size⟩; rw [← hw7]; simp only [World.setRow, Array.size_modify]; exact s6)
  have P1 := Lib.hid (show ReadsInt w7 .u64 A4 nk K from reads_own_of (show w7.ownsRow w4.heap.size 25 1 (.slice A4 nk c4) nk (nums .u64 K) by rw [← hw7]; exact own_setRow (pw_own_below ho1 b6) (fun he => by have := own_lt ho1 _ he.symm; omega) _) NK.out rfl)
  have P2 := Lib.hid (show ReadsInt w7 .u64 A5 nv V from reads_own_of (show w7.ownsRow w4.heap.size 25 1 (.slice A5 nv c5) nv (nums .u64 V) by rw [← hw7]; exact own_setRow (pw_own_below ho2 b6) (fun he => by have := own_lt ho2 _ he.symm; omega) _) NV.out rfl)
  have G4 := Lib.hid (fun a ha => (own_block ho1 a ha).1)
  have G5 := Lib.hid (fun a ha => (own_block ho2 a ha).1)
  have N7 := Lib.hid (keep_row N4.out D7.out)
  have R7 := Lib.hid (ReadsInt.below R4.out D7.out)
  have B7 := Lib.hid (below_then B4.out B4.out.size D7.out)
  have O17 := Lib.hid (pw_own_below O14.out D7.out)
  have O27 := Lib.hid (pw_own_below O24.out D7.out)
  clear ho1 ho2 hb b6 f6 s6 O14 O24 R4
  go_wp2_with ((with_reducible refine wpList_store_row rfl 24 (.tmp 6) (.tmp 22) rfl w5.heap.size #[.bool L, .slice A4 nk c4, .slice A5 nv c5] ?_ ?_ 24 _ F6.out (size3 _ _ _) ?_ (one3 _ _ _ _ _ _ _) ?_); rfl; rfl; rfl; rw [hw7])
  clear hw7 hw6 F6
  refine (awake_any _).mono ?_; rintro e w8 ⟨rfl, hb⟩
  have c0 : w8.cell? ⟨w2.heap.size, 0, none⟩ = some (.bool L) := cell_row (keep_row N7.out hb) rfl
  have c1' : w8.cell? ⟨w2.heap.size, 1, none⟩ = some (.slice A2 nk c2) := cell_row (keep_row N7.out hb) rfl
  have c2' : w8.cell? ⟨w2.heap.size, 2, none⟩ = some (.slice A3 nv c3) := cell_row (keep_row N7.out hb) rfl
  have d0 : w8.cell? ⟨w5.heap.size, 0, none⟩ = some (.bool L) := cell_row (keep_row M7.out hb) rfl
  have d1 : w8.cell? ⟨w5.heap.size, 1, none⟩ = some (.slice A4 nk c4) := cell_row (keep_row M7.out hb) rfl
  have d2 : w8.cell? ⟨w5.heap.size, 2, none⟩ = some (.slice A5 nv c5) := cell_row (keep_row M7.out hb) rfl
  have X8 := Lib.hid hb
  clear hb
  go_wp2_with fail
  refine (rsame_at _ (reads_own_of (pw_own_below O17.out X8.out) NK.out rfl) (reads_own_of (pw_own_below O27.out X8.out) NV.out rfl) (ReadsInt.below P1.out X8.out) (ReadsInt.below P2.out X8.out) (same_refl _ _ _)).mono ?_; rintro e w9 ⟨rfl, hb⟩
  have X9 := Lib.hid (below_then X8.out X8.out.size hb)
  clear hb c0 c1' c2' d0 d1 d2
  go_wp2_with fail
  refine (equal_same l _ (ReadsInt.below R7.out X9.out) (ReadsInt.below HR.out (below_then B7.out B7.out.size X9.out)) HW.out).mono ?_; rintro e w' ⟨rfl, rfl⟩
  have N9 := Lib.hid (keep_row N7.out X9.out)
  have M9 := Lib.hid (keep_row M7.out X9.out)
  have R9 := Lib.hid (ReadsInt.below R7.out X9.out)
  have Q1 := Lib.hid (ReadsInt.below P1.out X9.out)
  have Q2 := Lib.hid (ReadsInt.below P2.out X9.out)
  have O19 := Lib.hid (pw_own_below O17.out X9.out)
  have O29 := Lib.hid (pw_own_below O27.out X9.out)
  have B9 := Lib.hid (below_then B7.out B7.out.size X9.out)
  have c9 : w9.cell? ⟨w2.heap.size, 1, none⟩ = some (.slice A2 nk c2) := cell_row N9.out rfl
  have S9 := Lib.hid (show w5.heap.size < w9.heap.size by have := S7.out; have := X9.out.size; omega)
  clear P1 P2 N7 R7 M7 O17 O27 X8 X9 B7
  go_wp2_with fail
  go_loopw [46] (fun i wr => ∃ (j : Nat) (Kj Vj : List Int), j ≤ nk ∧ i = .int .i64 (j : Int) ∧ wr.ownsRow w1.heap.size 25 1 (.slice A2 nk c2) nk (nums .u64 Kj) ∧ wr.ownsRow w1.heap.size 25 1 (.slice A3 nv c3) nv (nums .u64 Vj) ∧ (∀ g, (g < w1.heap.size ∨ w2.heap.size ≤ g) → wr.heap[g]? = w9.heap[g]?) ∧ wr.heap.size = w9.heap.size ∧ Below w.heap.size w wr) (fun i _ => nk - (intOf i).toNat)
  case atStart => exact ⟨0, K, V, by omega, rfl, O19.out, O29.out, fun _ _ => rfl, rfl, B9.out⟩
  case round =>
    obtain ⟨j, Kj, Vj, hj, rfl, hok, hov, hkeep, hsize, hbel⟩ := hrel
    have OK := Lib.hid hok
    have OV := Lib.hid hov
    have KP := Lib.hid hkeep
    have SZ := Lib.hid hsize
    have BL := Lib.hid hbel
    clear hok hov hkeep hsize hbel c9
    by_cases hlt : j < nk
    · have hjv : (j : Int) < (nk : Int) := by omega
      have hjv' : (j : Int) < (nv : Int) := by have := KV.out; omega
      have hjd : decide ((j : Int) < (nk : Int)) = true := decide_eq_true hjv
      have hn8 : (nk : Int) ≤ 9223372036854775807 := by have := Q1.out.2.1; omega
      obtain ⟨gk, ck, hek, hgk, -⟩ := OK.out.form (by omega)
      injection hek with he1 he2 he3
      subst he1
      obtain ⟨gv, cv, hev, hgv, -⟩ := OV.out.form (by have := KV.out; omega)
      injection hev with he4 he5 he6
      subst he4
      have hg1 : gk < w2.heap.size := (G2.out _ rfl).2
      have hg2 : gv < w2.heap.size := (G3.out _ rfl).2
      have hne : gk ≠ gv := fun h => SP.out gk rfl (by rw [h]; rfl)
      obtain ⟨ka, kz⟩ := own_at OK.out (j : Int) (by omega) (by omega)
      obtain ⟨va, vz⟩ := own_at OV.out (j : Int) (by omega) (by omega)
      obtain ⟨x, hx⟩ : ∃ x, rd Kj (j : Int) = x := ⟨_, rfl⟩
      obtain ⟨y, hy⟩ : ∃ y, rd Vj (j : Int) = y := ⟨_, rfl⟩
      rw [hx] at ka
      rw [hy] at va
      have ka' : wr.cell? ⟨gk, j, none⟩ = some (.int .u64 x) := ka
      have kz' : wr.frozen? ⟨gk, j, none⟩ = false := kz
      have n1 : wr.cell? ⟨w2.heap.size, 1, none⟩ = some (.slice (some ⟨gk, 0, none⟩) nk c2) := cell_row ((KP.out _ (.inr (Nat.le_refl _))).trans N9.out) rfl
      clear ka kz hx hy
      obtain ⟨x', hx'⟩ : ∃ z, IntKind.u64.wrap (x + 1) = z := ⟨_, rfl⟩
      obtain ⟨y', hy'⟩ : ∃ z, IntKind.u64.wrap (y + 1) = z := ⟨_, rfl⟩
      obtain ⟨wa, hwa⟩ : ∃ wa, wr.setCell ⟨gk, j, none⟩ (.int .u64 x') = wa := ⟨_, rfl⟩
      obtain ⟨wb, hwb⟩ : ∃ wb, wa.setCell ⟨gv, j, none⟩ (.int .u64 y') = wb := ⟨_, rfl⟩
      have oka : wa.ownsRow w1.heap.size 25 1 (.slice (some ⟨gk, 0, none⟩) nk c2) nk (nums .u64 (Kj.set j x')) := by rw [← hwa]; have h := (own_store OK.out (j : Int) x').1; rw [Int.toNat_natCast] at h; exact h
      have ova : wa.ownsRow w1.heap.size 25 1 (.slice (some ⟨gv, 0, none⟩) nv c3) nv (nums .u64 Vj) := by rw [← hwa]; exact own_setCell OV.out (by intro h; injection h with h; exact hne h) _
      have va' : wa.cell? ⟨gv, j, none⟩ = some (.int .u64 y) := by rw [← hwa]; exact (World.cell?_setCell_far _ _ _ _ (by exact fun h => hne h)).trans va
      have vz' : wa.frozen? ⟨gv, j, none⟩ = false := by rw [← hwa, World.frozen?_setCell]; exact vz
      have n2 : wa.cell? ⟨w2.heap.size, 2, none⟩ = some (.slice (some ⟨gv, 0, none⟩) nv c3) := by
        rw [← hwa]
        exact (World.cell?_setCell_far _ _ _ _ (by exact fun h => absurd (show gk = w2.heap.size from h) (by omega))).trans (cell_row ((KP.out _ (.inr (Nat.le_refl _))).trans N9.out) rfl)
      have OKB := Lib.hid (show wb.ownsRow w1.heap.size 25 1 (.slice (some ⟨gk, 0, none⟩) nk c2) nk (nums .u64 (Kj.set j x')) by rw [← hwb]; exact own_setCell oka (by intro h; injection h with h; exact hne h.symm) _)
      have OVB := Lib.hid (show wb.ownsRow w1.heap.size 25 1 (.slice (some ⟨gv, 0, none⟩) nv c3) nv (nums .u64 (Vj.set j y')) by rw [← hwb]; have h := (own_store ova (j : Int) y').1; rw [Int.toNat_natCast] at h; exact h)
      have KPB := Lib.hid (show ∀ g, (g < w1.heap.size ∨ w2.heap.size ≤ g) → wb.heap[g]? = w9.heap[g]? by
        intro g hg
        rw [← hwb, Below.heap_setCell _ _ _ _ (by show g ≠ gv; omega), ← hwa, Below.heap_setCell _ _ _ _ (by show g ≠ gk; omega)]
        exact KP.out g hg)
      have SZB := Lib.hid (show wb.heap.size = w9.heap.size by rw [← hwb, World.size_setCell, ← hwa, World.size_setCell]; exact SZ.out)
      have BLB := Lib.hid (show Below w.heap.size w wb by rw [← hwb, ← hwa]; exact (BL.out.setCell (by show w.heap.size ≤ gk; have := B1.out.size; omega) _).setCell (by show w.heap.size ≤ gv; have := B1.out.size; omega) _)
      clear va vz oka ova hg1 hg2 hgk hgv hne hj
      go_wp2_with fail
      go_roundw
      case rel => exact ⟨j + 1, Kj.set j x', Vj.set j y', by omega, by go_num, OKB.out, OVB.out, KPB.out, SZB.out, BLB.out⟩
      case measure => simp [intOf]; omega
    · obtain rfl : j = nk := by omega
      have hjd : decide ((j : Int) < (j : Int)) = false := by simp
      have RR := Lib.hid (reads_keep (P := fun g => g < w1.heap.size ∨ w2.heap.size ≤ g) R9.out KP.out (fun a ha => .inl (G1.out a ha)))
      have RM1 := Lib.hid (reads_keep (P := fun g => g < w1.heap.size ∨ w2.heap.size ≤ g) Q1.out KP.out (fun a ha => .inr (by have := G4.out a ha; have := S4.out; omega)))
      have RM2 := Lib.hid (reads_keep (P := fun g => g < w1.heap.size ∨ w2.heap.size ≤ g) Q2.out KP.out (fun a ha => .inr (by have := G5.out a ha; have := S4.out; omega)))
      have MR := Lib.hid ((KP.out w5.heap.size (.inr (by have := S7.out; have := S4.out; omega))).trans M9.out)
      clear hj hlt
      go_wp2_with fail
      refine (take_at l _ RR.out HW.out C1.out TT.out NK.out NV.out).mono ?_; rintro e w11 ⟨A6, c6, A7, c7, rfl, ho1, ho2, -, hb⟩
      obtain ⟨w12, hw12, b12, f12, s12⟩ := made w11 #[.bool false, .slice none 0 0, .slice none 0 0] 24
      obtain ⟨w13, hw13⟩ : ∃ w13, w12.setRow w11.heap.size #[.bool L, .slice A6 j c6, .slice A7 nv c7] = w13 := ⟨_, rfl⟩
      have F12 := Lib.hid f12
      have I13 := Lib.hid (show w13.heap[w11.heap.size]? = some (.cells #[.bool L, .slice A6 j c6, .slice A7 nv c7] 24) by rw [← hw13]; exact setRow_heap _ _ _ _ _ _ f12)
      have D13 := Lib.hid (show Below wr.heap.size wr w13 by rw [← hw13]; exact below_setRow (below_then hb hb.size b12) hb.size _)
      have T1 := Lib.hid (show ReadsInt w13 .u64 A6 j K from reads_own_of (show w13.ownsRow wr.heap.size 25 1 (.slice A6 j c6) j (nums .u64 K) by rw [← hw13]; exact own_setRow (pw_own_below ho1 b12) (fun he => by have := own_lt ho1 _ he.symm; omega) _) NK.out rfl)
      have T2 := Lib.hid (show ReadsInt w13 .u64 A7 nv V from reads_own_of (show w13.ownsRow wr.heap.size 25 1 (.slice A7 nv c7) nv (nums .u64 V) by rw [← hw13]; exact own_setRow (pw_own_below ho2 b12) (fun he => by have := own_lt ho2 _ he.symm; omega) _) NV.out rfl)
      have m0 : w13.cell? ⟨w5.heap.size, 0, none⟩ = some (.bool L) := cell_row (keep_row MR.out D13.out) rfl
      have m1 : w13.cell? ⟨w5.heap.size, 1, none⟩ = some (.slice A4 j c4) := cell_row (keep_row MR.out D13.out) rfl
      have m2 : w13.cell? ⟨w5.heap.size, 2, none⟩ = some (.slice A5 nv c5) := cell_row (keep_row MR.out D13.out) rfl
      have i0 : w13.cell? ⟨w11.heap.size, 0, none⟩ = some (.bool L) := cell_row I13.out rfl
      have i1 : w13.cell? ⟨w11.heap.size, 1, none⟩ = some (.slice A6 j c6) := cell_row I13.out rfl
      have i2 : w13.cell? ⟨w11.heap.size, 2, none⟩ = some (.slice A7 nv c7) := cell_row I13.out rfl
      clear ho1 ho2 hb b12 f12 s12
      go_wp2_with ((with_reducible refine wpList_store_row rfl 24 (.tmp 9) (.tmp 67) rfl w11.heap.size #[.bool L, .slice A6 j c6, .slice A7 nv c7] ?_ ?_ 24 _ F12.out (size3 _ _ _) ?_ (one3 _ _ _ _ _ _ _) ?_); rfl; rfl; rfl; rw [hw13])
      refine (rsame_at _ T1.out T2.out (ReadsInt.below RM1.out D13.out) (ReadsInt.below RM2.out D13.out) (same_refl _ _ _)).mono ?_; rintro e w14 ⟨rfl, hb⟩
      have B14 := Lib.hid (below_then (below_then BL.out BL.out.size D13.out) (below_then BL.out BL.out.size D13.out).size hb)
      clear hb
      go_wp2_with fail
      go_ret
      exact ⟨rfl, B14.out⟩
end Go.Proofs.Ytdekplalhfpooaa.Nod
