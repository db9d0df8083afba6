/- The walks of the laws SuperTakes and SuperChooses: the call returns true, nothing that was there is changed (every input). -/
import Derived.Test.YtnnclfaibcedoaaSupK
set_option linter.unusedVariables false
set_option linter.unusedSimpArgs false
namespace Go.Proofs.Ytnnclfaibcedoaa.Sup
open Go Go.RowKit Go.Proofs.YtnnclfaibcedoaaW.PrintWords Go.Proofs.YtnnclfaibcedoaaW.PrintLast Go.Proofs.YtnnclfaibcedoaaW.PrintMore Base Odr

theorem rchoose_at {t : Ch} (a b : List Int) {A1 A2 : Option Addr} {n1 c1 n2 c2 : Nat} (w : World) (HR1 : ReadsInt w .u8 A1 n1 a) (hw1 : ∀ x ∈ a, (Lit.int .u8 x).wf = true) (hc1 : n1 ≤ c1) (HR2 : ReadsInt w .u8 A2 n2 b) (hw2 : ∀ x ∈ b, (Lit.int .u8 x).wf = true) (hc2 : n2 ≤ c2) (ht : stt a b 2 = t) :
    Calls Try.prog 10 #[.slice A1 n1 c1, .slice A2 n2 c2] w fun e w' => e = .returned (.tuple #[.agg #[.int .u64 t.G, .int .i64 t.B, .int .u64 t.D, .int .u64 t.N], .int .i64 t.sl, .int .i64 t.er]) ∧ Below w.heap.size w w' := by
  subst ht; exact rchoose_any a b A1 A2 n1 c1 n2 c2 w HR1 hw1 hc1 HR2 hw2 hc2
theorem equal_same (xs : List Int) {A1 A2 : Option Addr} {n1 c1 n2 c2 : Nat} (w : World) (H1 : ReadsInt w .u8 A1 n1 xs) (H2 : ReadsInt w .u8 A2 n2 xs) (h1 : ∀ x ∈ xs, (Lit.int .u8 x).wf = true) :
    Calls Try.prog 17 #[.slice A1 n1 c1, .slice A2 n2 c2] w fun e w' => e = .returned (.bool true) ∧ w = w' :=
  (equal_any xs xs A1 A2 n1 c1 n2 c2 w H1 H2 h1 h1).mono fun e w' h => by simpa using h
set_option maxRecDepth 100000 in
set_option maxHeartbeats 3200000 in
theorem takes_walk (A : Option Addr) (c : Nat) (l : List Int) (w : World) (hr : ReadsInt w .u8 A l.length l) (hl : l.length * 1 ≤ 140737488351232) (hw : ∀ x ∈ l, (Lit.int .u8 x).wf = true) (hc : l.length ≤ c) :
    Calls Try.prog 7 #[.slice A l.length c] w fun e w' => e = .returned (.bool true) ∧ Below w.heap.size w w' := by
  have HR := Lib.hid hr
  have HW := Lib.hid hw
  have HC := Lib.hid hc
  obtain ⟨G, hG⟩ : ∃ G, takeS l 0 = G := ⟨_, rfl⟩
  obtain ⟨B, hB⟩ : ∃ B, takeS l 1 = B := ⟨_, rfl⟩
  obtain ⟨D, hD⟩ : ∃ D, takeS l 2 = D := ⟨_, rfl⟩
  obtain ⟨N, hN⟩ : ∃ N, takeS l 3 = N := ⟨_, rfl⟩
  obtain ⟨er, her⟩ : ∃ er, takeE l = er := ⟨_, rfl⟩
  have E := Lib.hid (And.intro hG (And.intro hB (And.intro hD (And.intro hN her))))
  obtain ⟨n, hn⟩ : ∃ n, n = l.length := ⟨_, rfl⟩
  rw [← hn] at HR HC hl ⊢
  have HN := Lib.hid hn
  clear hr hw hc hG hB hD hN her hn
  go_enter Try.func7, Try.ntmps7
  go_wp2_with (at_builtin; refine print_append_row (w0 := w) w.heap.size rfl _ _ 22 5 .u8 1 rfl Try.underlying22 info8 (by omega) (.slice (some ⟨w.heap.size, 0, none⟩) 0 0) [] l A n c rfl rfl (own_lit w w.heap.size 5 .u8 [] (Nat.le_refl _) (by simp)) (ReadsInt.below HR.out ((Below.refl _ _).alloc (Nat.le_refl _) _)) ((Below.refl _ _).alloc (Nat.le_refl _) _) (by simp) (by simp; omega) ?_)
  intro v1 w1 hown hb hg hat
  have hown' : w1.ownsRow w.heap.size 5 1 v1 n (nums .u8 l) := by rw [HN.out]; simpa using hown
  obtain ⟨A1, c1, rfl⟩ := own_slice hown'
  have HC1 := Lib.hid (own_cap hown')
  have R1 := Lib.hid (reads_of_own hown' HN.out.symm rfl)
  have B1 := Lib.hid hb
  clear hown hown' hb hg hat
  go_wp2_with fail
  refine (take_at l _ R1.out HW.out HC1.out E.out.1 E.out.2.1 E.out.2.2.1 E.out.2.2.2.1 E.out.2.2.2.2).mono ?_; rintro e w2 ⟨rfl, hb⟩
  have X2 := Lib.hid (heap_alloc_new w2 (.cells #[.int .u64 G, .int .i64 B, .int .u64 D, .int .u64 N] 25))
  have R2 := Lib.hid (ReadsInt.below R1.out (hb.alloc hb.size (.cells #[.int .u64 G, .int .i64 B, .int .u64 D, .int .u64 N] 25)))
  have B2 := Lib.hid ((below_then B1.out B1.out.size hb).alloc (below_then B1.out B1.out.size hb).size (.cells #[.int .u64 G, .int .i64 B, .int .u64 D, .int .u64 N] 25))
  clear hb
  go_wp2_with fail
  refine (rtake_at l _ (ReadsInt.below HR.out B2.out) HW.out HC.out E.out.1 E.out.2.1 E.out.2.2.1 E.out.2.2.2.1 E.out.2.2.2.2).mono ?_; rintro e w3 ⟨rfl, hb⟩
  have X3 := Lib.hid (alloc_row (keep_row X2.out hb) (.cells #[.int .u64 G, .int .i64 B, .int .u64 D, .int .u64 N] 25))
  have Y3 := Lib.hid (heap_alloc_new w3 (.cells #[.int .u64 G, .int .i64 B, .int .u64 D, .int .u64 N] 25))
  have R3 := Lib.hid (ReadsInt.below R2.out (hb.alloc hb.size (.cells #[.int .u64 G, .int .i64 B, .int .u64 D, .int .u64 N] 25)))
  have B3 := Lib.hid ((below_then B2.out B2.out.size hb).alloc (below_then B2.out B2.out.size hb).size (.cells #[.int .u64 G, .int .i64 B, .int .u64 D, .int .u64 N] 25))
  clear hb
  go_wp2_with fail
  refine (awake_any _).mono ?_; rintro e w4 ⟨rfl, hb⟩
  obtain ⟨x0, x1, x2, x3⟩ := cells4 (keep_row X3.out hb)
  obtain ⟨y0, y1, y2, y3⟩ := cells4 (keep_row Y3.out hb)
  have R4 := Lib.hid (ReadsInt.below R3.out hb)
  have B4 := Lib.hid (below_then B3.out B3.out.size hb)
  clear hb
  go_wp2_with fail
  refine (equal_same l _ R4.out (ReadsInt.below HR.out B4.out) HW.out).mono ?_; rintro e w' ⟨rfl, rfl⟩
  go_wp2_with fail
  go_ret
  exact ⟨rfl, B4.out⟩
set_option maxRecDepth 100000 in
set_option maxHeartbeats 3200000 in
theorem chooses_walk (A : Option Addr) (c : Nat) (l : List Int) (w : World)
    (hr : ReadsInt w .u8 A l.length l) (hl : l.length * 1 ≤ 140737488351232) (hw : ∀ x ∈ l, (Lit.int .u8 x).wf = true) (hc : l.length ≤ c)
    (A' : Option Addr) (c' : Nat) (l' : List Int) (hr' : ReadsInt w .u8 A' l'.length l') (hl' : l'.length * 1 ≤ 140737488351232) (hw' : ∀ x ∈ l', (Lit.int .u8 x).wf = true) (hc' : l'.length ≤ c') :
    Calls Try.prog 3 #[.slice A l.length c, .slice A' l'.length c'] w fun e w' => e = .returned (.bool true) ∧ Below w.heap.size w w' := by
  have HR := Lib.hid hr
  have HW := Lib.hid hw
  have HC := Lib.hid hc
  have HR' := Lib.hid hr'
  have HW' := Lib.hid hw'
  have HC' := Lib.hid hc'
  obtain ⟨t, ht⟩ : ∃ t, stt l l' 2 = t := ⟨_, rfl⟩
  have HT := Lib.hid ht
  obtain ⟨n, hn⟩ : ∃ n, n = l.length := ⟨_, rfl⟩
  obtain ⟨n', hn'⟩ : ∃ n', n' = l'.length := ⟨_, rfl⟩
  rw [← hn] at HR HC ⊢
  rw [← hn'] at HR' HC' ⊢
  clear hr hl hw hc hr' hl' hw' hc' ht hn hn'
  obtain ⟨G, B, D, N, sl, er⟩ := t
  go_enter Try.func3, Try.ntmps3
  go_wp2_with fail
  refine (choose_at l l' _ HR.out HW.out HC.out HR'.out HW'.out HC'.out HT.out).mono ?_; rintro e w2 ⟨rfl, hb⟩
  have X2 := Lib.hid (heap_alloc_new w2 (.cells #[.int .u64 G, .int .i64 B, .int .u64 D, .int .u64 N] 25))
  have B2 := Lib.hid (hb.alloc hb.size (.cells #[.int .u64 G, .int .i64 B, .int .u64 D, .int .u64 N] 25))
  clear hb
  go_wp2_with fail
  refine (rchoose_at l l' _ (ReadsInt.below HR.out B2.out) HW.out HC.out (ReadsInt.below HR'.out B2.out) HW'.out HC'.out HT.out).mono ?_; rintro e w3 ⟨rfl, hb⟩
  have X3 := Lib.hid (alloc_row (keep_row X2.out hb) (.cells #[.int .u64 G, .int .i64 B, .int .u64 D, .int .u64 N] 25))
  have Y3 := Lib.hid (heap_alloc_new w3 (.cells #[.int .u64 G, .int .i64 B, .int .u64 D, .int .u64 N] 25))
  have B3 := Lib.hid ((below_then B2.out B2.out.size hb).alloc (below_then B2.out B2.out.size hb).size (.cells #[.int .u64 G, .int .i64 B, .int .u64 D, .int .u64 N] 25))
  clear hb
  go_wp2_with fail
  refine (awake_any _).mono ?_; rintro e w4 ⟨rfl, hb⟩
  obtain ⟨x0, x1, x2, x3⟩ := cells4 (keep_row X3.out hb)
  obtain ⟨y0, y1, y2, y3⟩ := cells4 (keep_row Y3.out hb)
  have B4 := Lib.hid (below_then B3.out B3.out.size hb)
  clear hb
  go_wp2_with fail
  go_ret
  exact ⟨rfl, B4.out⟩
end Go.Proofs.Ytnnclfaibcedoaa.Sup
