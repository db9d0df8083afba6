/- super.Put, by its contract (every input). -/
import Derived.Test.YtnnclfaibcedoaaSupA
import Derived.Lib.SmallJoins
set_option linter.unusedVariables false
set_option linter.unusedSimpArgs false
namespace Go.Proofs.Ytnnclfaibcedoaa.Sup
open Go Go.RowKit Go.Proofs.YtnnclfaibcedoaaW.PrintWords Go.Proofs.YtnnclfaibcedoaaW.PrintLast Go.Proofs.YtnnclfaibcedoaaW.PrintMore Base Odr

theorem may_at {b : Bool} {G B D N : Int} (w : World) (h : may G B D N = b) : Calls Try.prog 13 #[.agg #[.int .u64 G, .int .i64 B, .int .u64 D, .int .u64 N]] w fun e w' => e = .returned (.bool b) ∧ Below w.heap.size w w' := by
  subst h; exact may_any G B D N w
def front (G B D N : Int) (k : Nat) : List Int := [99, 105, 115, 116] ++ (([G, B, D, N].take k).map (be · 8)).flatten
def formL (G B D N : Int) : List Int := front G B D N 4 ++ List.replicate 20 0 ++ be G 8
theorem put_row (xs : List Int) (A : Option Addr) (n c : Nat) (m : Int) (w : World) (HR : ReadsInt w .u8 A n xs) (hn : n + 8 ≤ 140737488355328) :
    Calls Try.prog 20 #[.slice A n c, .int .u64 m, .int .i64 8] w fun e w' => ∃ A' c', e = .returned (.slice A' (n + 8) c') ∧ w'.ownsRow w.heap.size 5 1 (.slice A' (n + 8) c') (n + 8) (nums .u8 (xs ++ be m 8)) ∧ Below w.heap.size w w' := by
  refine (put_any xs A n c m 8 w HR hn (by omega) (by omega)).mono ?_
  rintro e w' ⟨v, rfl, ho, hb⟩
  have hl := HR.1
  have ho' : w'.ownsRow w.heap.size 5 1 v (xs ++ be m 8).length (nums .u8 (xs ++ be m 8)) := by rw [List.length_append, be_length, hl]; exact ho
  obtain ⟨A1, c1, rfl, hr1⟩ := own_reads ho'
  have e : (xs ++ be m 8).length = n + 8 := by rw [List.length_append, be_length, hl]
  rw [e]
  exact ⟨A1, c1, rfl, by rw [e] at ho'; exact ho', hb⟩
theorem reads_of_own {w : World} {base m n c : Nat} {A : Option Addr} {xs : List Int} (h : w.ownsRow base 5 1 (.slice A n c) m (nums .u8 xs)) (hl : xs.length = n) (hmn : m = n) : ReadsInt w .u8 A n xs := by
  subst hl; subst hmn
  exact reads_own h
set_option maxRecDepth 100000 in
set_option maxHeartbeats 1600000 in
theorem put_no (G B D N : Int) (w : World) (hm : may G B D N = false) : Calls Try.prog 12 #[.agg #[.int .u64 G, .int .i64 B, .int .u64 D, .int .u64 N]] w fun e w' => e = .returned (.tuple #[.slice none 0 0, .int .i64 1]) ∧ Below w.heap.size w w' := by
  have HM := Lib.hid hm
  have b0 : Below w.heap.size w (w.alloc (.cells #[.int .u64 G, .int .i64 B, .int .u64 D, .int .u64 N] 25)) := (Below.refl _ _).alloc (Nat.le_refl _) _
  have B0 := Lib.hid b0
  clear b0 hm
  go_enter Try.func12, Try.ntmps12
  go_wp2_with fail
  refine (may_at _ HM.out).mono ?_
  rintro e w1 ⟨rfl, hb⟩
  have B1 := Lib.hid (below_then B0.out B0.out.size hb)
  clear hb
  go_wp2_with fail
  go_ret2
  exact ⟨rfl, B1.out⟩
theorem front_succ (G B D N : Int) : front G B D N 0 ++ be G 8 = front G B D N 1 ∧ front G B D N 1 ++ be B 8 = front G B D N 2 ∧ front G B D N 2 ++ be D 8 = front G B D N 3 ∧ front G B D N 3 ++ be N 8 = front G B D N 4 := by
  refine ⟨?_, ?_, ?_, ?_⟩ <;> simp [front]
theorem index4 (G B D N : Int) : ∀ W : World, (Instr.index 48 (.agg #[.int .u64 G, .int .u64 B, .int .u64 D, .int .u64 N]) (.int .i64 0)).run Try.prog W = .ok (.int .u64 G) W ∧ (Instr.index 48 (.agg #[.int .u64 G, .int .u64 B, .int .u64 D, .int .u64 N]) (.int .i64 1)).run Try.prog W = .ok (.int .u64 B) W ∧
    (Instr.index 48 (.agg #[.int .u64 G, .int .u64 B, .int .u64 D, .int .u64 N]) (.int .i64 2)).run Try.prog W = .ok (.int .u64 D) W ∧ (Instr.index 48 (.agg #[.int .u64 G, .int .u64 B, .int .u64 D, .int .u64 N]) (.int .i64 3)).run Try.prog W = .ok (.int .u64 N) W := by
  intro W; refine ⟨?_, ?_, ?_, ?_⟩ <;> kernel_rfl
theorem front_length (G B D N : Int) (k : Nat) (h : k ≤ 4) : (front G B D N k).length = 4 + 8 * k := by
  obtain rfl | rfl | rfl | rfl | rfl : k = 0 ∨ k = 1 ∨ k = 2 ∨ k = 3 ∨ k = 4 := by omega
  all_goals simp [front, be_length]
set_option maxRecDepth 100000 in
set_option maxHeartbeats 1600000 in
theorem put_ok (G B D N : Int) (w : World) (hm : may G B D N = true) : Calls Try.prog 12 #[.agg #[.int .u64 G, .int .i64 B, .int .u64 D, .int .u64 N]] w fun e w' => ∃ A' c', e = .returned (.tuple #[.slice A' 64 c', .int .i64 0]) ∧ w'.ownsRow w.heap.size 5 1 (.slice A' 64 c') 64 (nums .u8 (formL G B D N)) ∧ Below w.heap.size w w' := by
  have HM := Lib.hid hm
  obtain ⟨-, ⟨hB0, hB1⟩, -, -⟩ := may_all hm
  have hwB : IntKind.u64.wrap B = B := by rw [wrap_u64]; omega
  have kc := fun (w : World) (C : Array Value) (n c g : Nat) (hg : g = w.heap.size) => Joins.run_convert_bytes_const_at (P := Try.prog) w 22 5 C n c g hg Try.underlying22 Try.underlying5
  have b0 : Below w.heap.size w (w.alloc (.cells #[.int .u64 G, .int .i64 B, .int .u64 D, .int .u64 N] 25)) := (Below.refl _ _).alloc (Nat.le_refl _) _
  have B0 := Lib.hid b0
  have c0 : (w.alloc (.cells #[.int .u64 G, .int .i64 B, .int .u64 D, .int .u64 N] 25)).cell? ⟨w.heap.size, 0, none⟩ = some (.int .u64 G) := by rw [World.cell?_alloc_at _ _ _ _ rfl]; rfl
  have c1 : (w.alloc (.cells #[.int .u64 G, .int .i64 B, .int .u64 D, .int .u64 N] 25)).cell? ⟨w.heap.size, 1, none⟩ = some (.int .i64 B) := by rw [World.cell?_alloc_at _ _ _ _ rfl]; rfl
  have c2 : (w.alloc (.cells #[.int .u64 G, .int .i64 B, .int .u64 D, .int .u64 N] 25)).cell? ⟨w.heap.size, 2, none⟩ = some (.int .u64 D) := by rw [World.cell?_alloc_at _ _ _ _ rfl]; rfl
  have c3 : (w.alloc (.cells #[.int .u64 G, .int .i64 B, .int .u64 D, .int .u64 N] 25)).cell? ⟨w.heap.size, 3, none⟩ = some (.int .u64 N) := by rw [World.cell?_alloc_at _ _ _ _ rfl]; rfl
  have C0 := Lib.hid c0
  have C1 := Lib.hid c1
  have C2 := Lib.hid c2
  have C3 := Lib.hid c3
  clear b0 hm c0 c1 c2 c3
  go_enter Try.func12, Try.ntmps12
  go_wp2_with fail
  refine (may_at _ HM.out).mono ?_
  rintro e w1 ⟨rfl, hb⟩
  have B1 := Lib.hid (below_then B0.out B0.out.size hb)
  have d1 := alloc_cell (pw_cell_below hb C0.out) (.cells #[.int .u8 99, .int .u8 105, .int .u8 115, .int .u8 116] 5 (4, 5))
  have d2 := alloc_cell (pw_cell_below hb C1.out) (.cells #[.int .u8 99, .int .u8 105, .int .u8 115, .int .u8 116] 5 (4, 5))
  have d3 := alloc_cell (pw_cell_below hb C2.out) (.cells #[.int .u8 99, .int .u8 105, .int .u8 115, .int .u8 116] 5 (4, 5))
  have d4 := alloc_cell (pw_cell_below hb C3.out) (.cells #[.int .u8 99, .int .u8 105, .int .u8 115, .int .u8 116] 5 (4, 5))
  have D1 := Lib.hid d1
  have RL := Lib.hid (lit_at (W := w1) (e := 5) (fr := (4, 5)) (k := .u8) [99, 105, 115, 116] rfl (by decide))
  clear hb
  go_wp2_with fail
  go_loopw [4, 6, 22] (fun b n i wr => ∃ (k : Nat) (A' : Option Addr) (c' : Nat), k ≤ 4 ∧ i = .int .i64 k ∧ b = .slice A' (4 + 8 * k) c' ∧ ReadsInt wr .u8 A' (4 + 8 * k) (front G B D N k) ∧ (k = 0 ∨ wr.ownsRow (w.heap.size + 1) 5 1 (.slice A' (4 + 8 * k) c') (4 + 8 * k) (nums .u8 (front G B D N k))) ∧ wr.cell? ⟨w.heap.size, 0, none⟩ = some (.int .u64 G) ∧ Below w.heap.size w wr) (fun _ _ i _ => 4 - (intOf i).toNat)
  case atStart => exact ⟨0, _, _, by omega, rfl, rfl, RL.out, .inl rfl, D1.out, B1.out.alloc B1.out.size _⟩
  case round =>
    clear d1 d2 d3 d4
    obtain ⟨k, A2, c2, hk, rfl, rfl, hr, ho, hg, hb⟩ := hrel
    have HR := Lib.hid hr
    have HO := Lib.hid ho
    have HK := Lib.hid hg
    have HB := Lib.hid hb
    clear hr ho hg hb
    have i0 := fun W => (index4 G B D N W).1
    have i1 := fun W => (index4 G B D N W).2.1
    have i2 := fun W => (index4 G B D N W).2.2.1
    have i3 := fun W => (index4 G B D N W).2.2.2
    obtain rfl | rfl | rfl | rfl | rfl : k = 0 ∨ k = 1 ∨ k = 2 ∨ k = 3 ∨ k = 4 := by omega
    · go_wp2_with fail
      refine (put_row (front G B D N 0) _ 4 _ G _ HR.out (by omega)).mono ?_
      rintro e w4 ⟨A4, c4, rfl, ho4, hb4⟩
      rw [(front_succ G B D N).1] at ho4
      have HO4 := Lib.hid (own_weaken (base' := w.heap.size + 1) ho4 (block_lt_of_cell HK.out))
      have HB4 := Lib.hid (below_then HB.out HB.out.size hb4)
      have K4 := Lib.hid (pw_cell_below hb4 HK.out)
      clear ho4 hb4
      go_wp2_with fail
      go_roundw
      case rel => exact ⟨1, A4, c4, by omega, by go_num, rfl, reads_of_own HO4.out (front_length _ _ _ _ _ (by omega)) rfl, .inr HO4.out, K4.out, HB4.out⟩
      case measure => simp [intOf]
    · go_wp2_with fail
      refine (put_row (front G B D N 1) _ 12 _ B _ HR.out (by omega)).mono ?_
      rintro e w4 ⟨A4, c4, rfl, ho4, hb4⟩
      rw [(front_succ G B D N).2.1] at ho4
      have HO4 := Lib.hid (own_weaken (base' := w.heap.size + 1) ho4 (block_lt_of_cell HK.out))
      have HB4 := Lib.hid (below_then HB.out HB.out.size hb4)
      have K4 := Lib.hid (pw_cell_below hb4 HK.out)
      clear ho4 hb4
      go_wp2_with fail
      go_roundw
      case rel => exact ⟨2, A4, c4, by omega, by go_num, rfl, reads_of_own HO4.out (front_length _ _ _ _ _ (by omega)) rfl, .inr HO4.out, K4.out, HB4.out⟩
      case measure => simp [intOf]
    · go_wp2_with fail
      refine (put_row (front G B D N 2) _ 20 _ D _ HR.out (by omega)).mono ?_
      rintro e w4 ⟨A4, c4, rfl, ho4, hb4⟩
      rw [(front_succ G B D N).2.2.1] at ho4
      have HO4 := Lib.hid (own_weaken (base' := w.heap.size + 1) ho4 (block_lt_of_cell HK.out))
      have HB4 := Lib.hid (below_then HB.out HB.out.size hb4)
      have K4 := Lib.hid (pw_cell_below hb4 HK.out)
      clear ho4 hb4
      go_wp2_with fail
      go_roundw
      case rel => exact ⟨3, A4, c4, by omega, by go_num, rfl, reads_of_own HO4.out (front_length _ _ _ _ _ (by omega)) rfl, .inr HO4.out, K4.out, HB4.out⟩
      case measure => simp [intOf]
    · go_wp2_with fail
      refine (put_row (front G B D N 3) _ 28 _ N _ HR.out (by omega)).mono ?_
      rintro e w4 ⟨A4, c4, rfl, ho4, hb4⟩
      rw [(front_succ G B D N).2.2.2] at ho4
      have HO4 := Lib.hid (own_weaken (base' := w.heap.size + 1) ho4 (block_lt_of_cell HK.out))
      have HB4 := Lib.hid (below_then HB.out HB.out.size hb4)
      have K4 := Lib.hid (pw_cell_below hb4 HK.out)
      clear ho4 hb4
      go_wp2_with fail
      go_roundw
      case rel => exact ⟨4, A4, c4, by omega, by go_num, rfl, reads_of_own HO4.out (front_length _ _ _ _ _ (by omega)) rfl, .inr HO4.out, K4.out, HB4.out⟩
      case measure => simp [intOf]
    · have ho := (HO.out.resolve_left (by decide))
      obtain ⟨g, c2', he, -, -⟩ := ho.form (by omega)
      injection he with he1 he2 he3
      subst he1; subst he3
      obtain ⟨A5, c5, w5, hrun, ho5, hg5⟩ := append_zeros 20 ho (by omega) (by omega) (block_lt_of_cell HK.out)
      have HB5 := Lib.hid (pw_below_grown HB.out (some g) HB.out.size hg5 (fun k hk => by have := own_base ho k (by simpa [Value.ownBlock] using hk); omega))
      have HO5 := Lib.hid ho5
      have hgb : w.heap.size + 1 ≤ g := own_base ho g rfl
      have K5 : w5.cell? ⟨w.heap.size, 0, none⟩ = some (.int .u64 G) := hg5.cell HK.out (by intro h; injection h with h; have h' : w.heap.size = g := h; omega)
      have HK5 := Lib.hid K5
      have HRU := Lib.hid hrun
      have R5 := Lib.hid (reads_of_own (n := 56) ho5 (by rw [List.length_append, front_length _ _ _ _ _ (by omega), List.length_replicate]) rfl)
      have B5 := HB5
      clear ho ho5 hg5 hrun i0 i1 i2 i3 kc HK5
      go_wp2_with (at_builtin; refine wp_zeros 20 rfl _ rfl rfl HRU.out ?_)
      refine (put_row _ _ 56 _ G _ R5.out (by omega)).mono ?_
      rintro e w6 ⟨A6, c6, rfl, ho6, hb6⟩
      have HO6 := Lib.hid (own_weaken ho6 B5.out.size)
      have HB6 := Lib.hid (below_then B5.out B5.out.size hb6)
      clear ho6 hb6 K5
      go_wp2_with fail
      go_ret2
      exact ⟨A6, c6, rfl, HO6.out, HB6.out⟩
end Go.Proofs.Ytnnclfaibcedoaa.Sup
