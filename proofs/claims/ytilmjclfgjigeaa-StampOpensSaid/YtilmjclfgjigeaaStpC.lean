/- stamp.Open, by its contract (every input). -/
import Derived.Test.YtilmjclfgjigeaaStpB
set_option linter.unusedVariables false
set_option linter.unusedSimpArgs false
namespace Go.Proofs.Ytilmjclfgjigeaa.Stp
open Go Go.RowKit Go.Proofs.YtilmjclfgjigeaaW.PrintWords Go.Proofs.YtilmjclfgjigeaaW.PrintLast Go.Proofs.YtilmjclfgjigeaaW.PrintMore Base2 Odr
open Crc (more sum_any rsum_any)


theorem get_at {g : Int} {k : Nat} (b : List Int) (A : Option Addr) (n c : Nat) {w : World} (HR : ReadsInt w .u8 A n b) (hw : ∀ x ∈ b, (Lit.int .u8 x).wf = true) (hc : n ≤ c) (h1 : 1 ≤ k) (h2 : k ≤ 8) (hs : k ≤ n) (hg : getN (b.take k) = g) :
    ∀ u : Unit, Calls Try.prog 34 #[.slice A n c, .int .i64 (k : Int)] w fun e w' => e = .returned (.tuple #[.int .u64 g, .int .i64 0]) ∧ w = w' := fun _ => by
  subst hg; exact get_any b A n c k w HR hw hc h1 h2 hs
theorem drop_reads {w : World} {k : IntKind} {A : Option Addr} {n : Nat} {xs : List Int} (h : ReadsInt w k A n xs) (i : Nat) (hi : i ≤ n) (h0 : 0 < i) : ReadsInt w k (A.map fun x => { block := x.block, off := x.off + i }) (n - i) (xs.drop i) := by
  have h' := h.drop_ (c := n + i + 1) i hi (by omega)
  rw [if_neg (by omega)] at h'
  have e : (fun x : Addr => x.add i) = fun x => { block := x.block, off := x.off + i } := by
    funext x; unfold Addr.add; rw [if_neg (by omega)]
  rw [e] at h'
  exact h'
set_option maxRecDepth 100000 in
theorem get_test (ys : List Int) (k : Nat) (m : Int) (hl : ys.length = k) (hw : ∀ x ∈ ys, (Lit.int .u8 x).wf = true) (h0 : 0 ≤ m) (h1 : m < (256 : Int) ^ k) : (getN ys == m) = decide (ys = be m k) := by
  rw [Bool.eq_iff_iff]; simp only [beq_iff_eq, decide_eq_true_eq]
  exact getN_eq k ys m hl hw h0 h1
set_option maxHeartbeats 3200000 in
theorem open_any (b : List Int) (A : Option Addr) (n c : Nat) (at_ kind : Int) (w : World) (HR : ReadsInt w .u8 A n b) (hw : ∀ x ∈ b, (Lit.int .u8 x).wf = true) (hc : n ≤ c) (h0 : 0 ≤ kind) (h1 : kind < 256) :
    Calls Try.prog 25 #[.slice A n c, .int .i64 at_, .int .u8 kind] w fun e w' => ∃ A' c', e = .returned (.tuple #[.slice A' (openL b at_ kind).length c', .int .i64 (openE b at_ kind)]) ∧ w'.ownsRow w.heap.size 5 1 (.slice A' (openL b at_ kind).length c') (openL b at_ kind).length (nums .u8 (openL b at_ kind)) ∧ Below w.heap.size w w' := by
  have hl := HR.1
  subst hl
  by_cases hs : b.length < 256
  · have he : openE b at_ kind = 4 := if_pos hs
    rw [openL_no (by rw [he]; decide), he]
    have hs' : decide ((b.length : Int) < 256) = true := decide_eq_true (by omega)
    have HE := Lib.hid he
    clear he HR
    go_enter Try.func25, Try.ntmps25
    go_wp2_with fail
    go_ret2
    exact ⟨none, 0, rfl, own_nil _ _ _ _, Below.refl _ _⟩
  by_cases hg : 256 < b.length
  · have he : openE b at_ kind = 3 := by rw [openE, if_neg hs, if_pos hg]
    rw [openL_no (by rw [he]; decide), he]
    have HE := Lib.hid he
    have hs2 : decide ((b.length : Int) < 256) = false := decide_eq_false (by omega)
    have hg2 : decide (256 < (b.length : Int)) = true := decide_eq_true (by omega)
    have HH := Lib.hid hg
    clear he HR hs hg hc hw
    obtain ⟨N, hN⟩ : ∃ N, N = b.length := ⟨_, rfl⟩
    rw [← hN] at hs2 hg2 ⊢
    have HN := Lib.hid hN
    clear hN
    go_enter Try.func25, Try.ntmps25
    go_wp2_with fail
    go_ret2
    exact ⟨none, 0, rfl, own_nil _ _ _ _, Below.refl _ _⟩
  have hl : b.length = 256 := by omega
  clear hs hg
  rw [hl] at HR hc
  have R1 := drop_reads HR 252 (by omega) (by omega)
  have R2 := drop_reads HR 240 (by omega) (by omega)
  have R3 := drop_reads HR 248 (by omega) (by omega)
  have hw1 : ∀ x ∈ b.drop 252, (Lit.int .u8 x).wf = true := fun x hx => hw x (List.mem_of_mem_drop hx)
  have hw2 : ∀ x ∈ b.drop 240, (Lit.int .u8 x).wf = true := fun x hx => hw x (List.mem_of_mem_drop hx)
  have hw3 : ∀ x ∈ b.drop 248, (Lit.int .u8 x).wf = true := fun x hx => hw x (List.mem_of_mem_drop hx)
  have e4 : (b.drop 252).take 4 = b.drop 252 := List.take_of_length_le (by simp; omega)
  obtain ⟨s, hsum, s0, s1⟩ : ∃ s, sumOf (b.take 252) = s ∧ 0 ≤ s ∧ s < 4294967296 := ⟨_, rfl, sumOf_range _⟩
  obtain ⟨m, hm, m0, m1⟩ : ∃ m, u64 at_ = m ∧ 0 ≤ m ∧ m < 18446744073709551616 := ⟨_, rfl, by unfold u64; omega, by unfold u64; omega⟩
  have T1 := get_test (b.drop 252) 4 s (by simp; omega) hw1 s0 s1
  have T2 := get_test ((b.drop 240).take 8) 8 m (by simp; omega) (fun x hx => hw2 x (List.mem_of_mem_take hx)) m0 (by omega)
  have T3 := get_test ((b.drop 248).take 4) 4 kind (by simp; omega) (fun x hx => hw3 x (List.mem_of_mem_take hx)) h0 (by omega)
  have G1 := get_at (g := getN (b.drop 252)) (k := 4) (b.drop 252) _ 4 (c - 252) R1 hw1 (by omega) (by omega) (by omega) (by omega) (by rw [e4])
  have G2 := get_at (k := 8) (b.drop 240) _ 16 (c - 240) R2 hw2 (by omega) (by omega) (by omega) (by omega) rfl
  have G3 := get_at (k := 4) (b.drop 248) _ 8 (c - 248) R3 hw3 (by omega) (by omega) (by omega) (by omega) rfl
  have hE : openE b at_ kind = if b.drop 252 ≠ be s 4 then 20 else if (b.drop 240).take 8 ≠ be m 8 then 21 else if (b.drop 248).take 4 ≠ be kind 4 then 22 else 0 := by
    unfold openE
    rw [if_neg (by omega), if_neg (by omega), hsum, hm]
  obtain ⟨g1, hg1⟩ : ∃ g, g = getN (b.drop 252) := ⟨_, rfl⟩
  obtain ⟨g2, hg2⟩ : ∃ g, g = getN ((b.drop 240).take 8) := ⟨_, rfl⟩
  obtain ⟨g3, hg3⟩ : ∃ g, g = getN ((b.drop 248).take 4) := ⟨_, rfl⟩
  rw [← hg1] at T1 G1
  rw [← hg2] at T2 G2
  rw [← hg3] at T3 G3
  obtain ⟨er, her⟩ : ∃ er, openE b at_ kind = er := ⟨_, rfl⟩
  have hmw : IntKind.u64.wrap at_ = m := by rw [wrap_u64]; exact hm
  have HRH := Lib.hid HR
  have R252 := Lib.hid (HR.take_ 252 (by omega))
  have R240 := Lib.hid (HR.take_ 240 (by omega))
  have HS := Lib.hid hsum
  have F1 := Lib.hid G1
  have F2 := Lib.hid G2
  have F3 := Lib.hid G3
  have HEr := Lib.hid her
  have h252 : 252 ≤ c := by omega
  have h240 : 240 ≤ c := by omega
  clear G1 G2 G3 HR hsum hm hg1 hg2 hg3 hw1 hw2 hw3 e4 R1 R2 R3
  rw [hl]
  have key : ∀ t1 t2 t3 : Bool, (g1 == s) = t1 → (g2 == m) = t2 → (g3 == kind) = t3 → (er ≠ 0 → (openL b at_ kind) = []) → (er = if t1 = false then 20 else if t2 = false then 21 else if t3 = false then 22 else 0) → (er = 0 → openL b at_ kind = b.take 240) →
      Calls Try.prog 25 #[.slice A 256 c, .int .i64 at_, .int .u8 kind] w fun e w' => ∃ A' c', e = .returned (.tuple #[.slice A' (openL b at_ kind).length c', .int .i64 er]) ∧ w'.ownsRow w.heap.size 5 1 (.slice A' (openL b at_ kind).length c') (openL b at_ kind).length (nums .u8 (openL b at_ kind)) ∧ Below w.heap.size w w' := by
    intro t1 t2 t3 q1 q2 q3 hno her0 hok
    clear T1 T2 T3 hE her hw
    cases t1 with
    | false =>
      have her1 : er = 20 := by rw [her0]; rfl
      rw [hno (by rw [her1]; decide), her1]
      clear hno her0 hok her1 q2 q3
      go_enter Try.func25, Try.ntmps25
      go_wp2_with fail
      refine (F1.out ()).mono ?_; rintro e w' ⟨rfl, rfl⟩
      go_wp2_with fail
      refine (F2.out ()).mono ?_; rintro e w' ⟨rfl, rfl⟩
      go_wp2_with fail
      refine (F3.out ()).mono ?_; rintro e w' ⟨rfl, rfl⟩
      go_wp2_with fail
      refine (sum_at (s := s) _ R252.out HS.out).mono ?_; rintro e w' ⟨rfl, rfl⟩
      go_wp2_with fail
      go_ret2
      exact ⟨none, 0, rfl, own_nil _ _ _ _, Below.refl _ _⟩
    | true =>
    cases t2 with
    | false =>
      have her1 : er = 21 := by rw [her0]; rfl
      rw [hno (by rw [her1]; decide), her1]
      clear hno her0 hok her1 q3
      go_enter Try.func25, Try.ntmps25
      go_wp2_with fail
      refine (F1.out ()).mono ?_; rintro e w' ⟨rfl, rfl⟩
      go_wp2_with fail
      refine (F2.out ()).mono ?_; rintro e w' ⟨rfl, rfl⟩
      go_wp2_with fail
      refine (F3.out ()).mono ?_; rintro e w' ⟨rfl, rfl⟩
      go_wp2_with fail
      refine (sum_at (s := s) _ R252.out HS.out).mono ?_; rintro e w' ⟨rfl, rfl⟩
      go_wp2_with fail
      go_ret2
      exact ⟨none, 0, rfl, own_nil _ _ _ _, Below.refl _ _⟩
    | true =>
    cases t3 with
    | false =>
      have her1 : er = 22 := by rw [her0]; rfl
      rw [hno (by rw [her1]; decide), her1]
      clear hno her0 hok her1
      go_enter Try.func25, Try.ntmps25
      go_wp2_with fail
      refine (F1.out ()).mono ?_; rintro e w' ⟨rfl, rfl⟩
      go_wp2_with fail
      refine (F2.out ()).mono ?_; rintro e w' ⟨rfl, rfl⟩
      go_wp2_with fail
      refine (F3.out ()).mono ?_; rintro e w' ⟨rfl, rfl⟩
      go_wp2_with fail
      refine (sum_at (s := s) _ R252.out HS.out).mono ?_; rintro e w' ⟨rfl, rfl⟩
      go_wp2_with fail
      go_ret2
      exact ⟨none, 0, rfl, own_nil _ _ _ _, Below.refl _ _⟩
    | true =>
      have her1 : er = 0 := by rw [her0]; rfl
      have hlen : (b.take 240).length = 240 := by rw [List.length_take]; omega
      rw [hok her1, her1, hlen]
      have HLN := Lib.hid hlen
      clear hno her0 hok her1 hlen
      go_enter Try.func25, Try.ntmps25
      go_wp2_with fail
      refine (F1.out ()).mono ?_; rintro e w' ⟨rfl, rfl⟩
      go_wp2_with fail
      refine (F2.out ()).mono ?_; rintro e w' ⟨rfl, rfl⟩
      go_wp2_with fail
      refine (F3.out ()).mono ?_; rintro e w' ⟨rfl, rfl⟩
      go_wp2_with fail
      refine (sum_at (s := s) _ R252.out HS.out).mono ?_; rintro e w' ⟨rfl, rfl⟩
      go_wp2_with fail
      refine (clone_any _ _ 240 240 _ R240.out (by omega)).mono ?_
      rintro e w1 ⟨v1, rfl, ho1, hb1⟩
      obtain ⟨A4, c4, rfl⟩ := own_slice ho1
      have HO1 := Lib.hid ho1
      have HB1 := Lib.hid hb1
      clear ho1 hb1
      go_wp2_with fail
      go_ret2
      exact ⟨A4, c4, rfl, HO1.out, HB1.out⟩
  rw [her]
  refine key _ _ _ T1 T2 T3 (fun h => openL_no (by rw [her]; exact h)) ?_ (fun h => openL_ok (by rw [her]; exact h))
  rw [← her, hE]
  simp only [decide_eq_false_iff_not]
end Go.Proofs.Ytilmjclfgjigeaa.Stp
