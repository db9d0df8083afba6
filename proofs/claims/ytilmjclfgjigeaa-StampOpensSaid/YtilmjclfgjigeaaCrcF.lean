/- What the laws of the sums ask first, 'wakes': it is true. -/
import Derived.Test.YtilmjclfgjigeaaCrcE
import Derived.Lib.SmallJoins
set_option linter.unusedVariables false
set_option linter.unusedSimpArgs false
namespace Go.Proofs.Ytilmjclfgjigeaa.Crc
open Go Go.RowKit Go.Proofs.YtilmjclfgjigeaaW.PrintWords Go.Proofs.YtilmjclfgjigeaaW.PrintLast Go.Proofs.YtilmjclfgjigeaaW.PrintMore Base

theorem reads_nil (W : World) (k : IntKind) (A : Option Addr) : ReadsInt W k A 0 [] := ⟨rfl, by omega, fun h => absurd h (by omega)⟩
theorem reads_own {w : World} {base n c : Nat} {e : TypeId} {k : IntKind} {A : Option Addr} {xs : List Int} (h : w.ownsRow base e 1 (.slice A n c) n (nums k xs)) : ReadsInt w k A n xs := by
  obtain ⟨A', c', he, hr⟩ := own_reads h
  injection he with h1
  subst h1
  exact hr
theorem lit_reads (W : World) (e : TypeId) (k : IntKind) (xs : List Int) (h : xs.length ≤ 9223372036854775807) : ReadsInt (W.alloc (.cells (nums k xs).toArray e)) k (some ⟨W.heap.size, 0, none⟩) xs.length xs :=
  reads_own (own_lit W 0 e k xs (by omega) h)
theorem row_reads {W : World} {g : Nat} {e : TypeId} {fr : Nat × Nat} {k : IntKind} {xs : List Int} (hg : W.heap[g]? = some (.cells (nums k xs).toArray e fr)) (h : xs.length ≤ 9223372036854775807) : ReadsInt W k (some ⟨g, 0, none⟩) xs.length xs := by
  refine ⟨rfl, h, fun _ => ⟨_, rfl, fun j hj => ?_⟩⟩
  rw [add_plain, cell_of_row W g j _ e fr hg]
  simp [nums, hj]
theorem mark_reads (W : World) (e : TypeId) (fr : Nat × Nat) (k : IntKind) (xs : List Int) (h : xs.length ≤ 9223372036854775807) : ReadsInt (W.alloc (.cells (nums k xs).toArray e fr)) k (some ⟨W.heap.size, 0, none⟩) xs.length xs :=
  row_reads (heap_alloc_new _ _) h
theorem made_reads (W : World) (e : TypeId) (k : IntKind) (m : Nat) (h : m ≤ 9223372036854775807) : ReadsInt (W.alloc (.cells (madeCells #[.int k 0] m) e)) k (some ⟨W.heap.size, 0, none⟩) m (List.replicate m 0) :=
  reads_own (own_made W 0 e k m (by omega) h)
theorem lit_at {W : World} {g : Nat} {e : TypeId} {fr : Nat × Nat} {k : IntKind} (xs : List Int) (hg : g = W.heap.size) (h : xs.length ≤ 9223372036854775807) : ReadsInt (W.alloc (.cells (nums k xs).toArray e fr)) k (some ⟨g, 0, none⟩) xs.length xs := by
  subst hg; exact mark_reads W e fr k xs h
theorem made_at {W : World} {g : Nat} {e : TypeId} {k : IntKind} {m : Nat} (hg : g = W.heap.size) (h : m ≤ 9223372036854775807) : ReadsInt (W.alloc (.cells (madeCells #[.int k 0] m) e)) k (some ⟨g, 0, none⟩) m (List.replicate m 0) := by
  subst hg; exact made_reads W e k m h
theorem made23 (m : Nat) (h : m ≤ 281474976710656) : ∀ W : World, (Instr.makeSlice 23 (.int .i64 (m : Int)) (.int .i64 (m : Int))).run Try.prog W = .ok (.slice (some ⟨W.heap.size, 0, none⟩) m m) (W.alloc (.cells (madeCells #[.int .u8 0] m) 5)) :=
  print_make 23 5 .u8 1 Try.underlying23 (by kernel_rfl) (by omega) m (by omega)
theorem sum_at {r : Int} {xs : List Int} {A : Option Addr} {n c : Nat} (w : World) (HR : ReadsInt w .u8 A n xs) (h : ((more 0 xs).toNat : Int) = r) :
    Calls Try.prog 15 #[.slice A n c] w fun e w' => e = .returned (.int .u32 r) ∧ w = w' := by
  subst h; exact sum_any xs A n c w HR
theorem more_at {s r : Int} {t : BitVec 32} {xs : List Int} {A : Option Addr} {n c : Nat} (w : World) (HR : ReadsInt w .u8 A n xs) (hs : s = (t.toNat : Int)) (h : ((more t xs).toNat : Int) = r) :
    Calls Try.prog 17 #[.int .u32 s, .slice A n c] w fun e w' => e = .returned (.int .u32 r) ∧ w = w' := by
  subst h; subst hs; exact more_any t xs A n c w HR

theorem joined_at {x y r : Int} {a b : BitVec 32} {n : Int} (w : World) (hx : x = (a.toNat : Int)) (hy : y = (b.toNat : Int)) (hn : n ≤ 9223372036854775807) (h : ((joined a b n.toNat).toNat : Int) = r) :
    Calls Try.prog 20 #[.int .u32 x, .int .u32 y, .int .i64 n] w fun e w' => e = .returned (.int .u32 r) ∧ Below w.heap.size w w' := by
  subst hx; subst hy; subst h; exact joined_any a b n w hn
set_option maxRecDepth 100000 in
set_option maxHeartbeats 200000 in
theorem wakes_any (w : World) : Calls Try.prog 19 #[] w fun e w' => e = .returned (.bool true) ∧ Below w.heap.size w w' := by
  have hmk : ∀ W : World, (Instr.makeSlice 23 (.int .i64 32) (.int .i64 32)).run Try.prog W = .ok (.slice (some ⟨W.heap.size, 0, none⟩) 32 32) (W.alloc (.cells (madeCells #[.int .u8 0] 32) 5)) := made23 32 (by omega)
  have kc := fun (w : World) (C : Array Value) (n c g : Nat) (hg : g = w.heap.size) => Joins.run_convert_bytes_const_at (P := Try.prog) w 23 5 C n c g hg Try.underlying23 Try.underlying5
  go_enter Try.func19, Try.ntmps19
  go_wp2_with fail
  (with_reducible refine (sum_at (r := 0) _ (reads_nil _ _ _) (by decide +kernel)).mono ?_); rintro e w' ⟨rfl, rfl⟩
  go_wp2_with fail
  refine (sum_at (r := 3808858755) _ (lit_at [49, 50, 51, 52, 53, 54, 55, 56, 57] (by simp) (by decide)) (by decide +kernel)).mono ?_; rintro e w' ⟨rfl, rfl⟩
  go_wp2_with fail
  refine (sum_at (r := 2324772522) _ (made_at (by simp) (by decide)) (by decide +kernel)).mono ?_; rintro e w' ⟨rfl, rfl⟩
  go_wp2_with fail
  refine (sum_at (r := 4131058926) _ (lit_at [49, 50, 51, 52] (by simp) (by decide)) (by decide +kernel)).mono ?_; rintro e w' ⟨rfl, rfl⟩
  go_wp2_with fail
  refine (more_at (t := 4131058926#32) (r := 3808858755) _ (lit_at [53, 54, 55, 56, 57] (by simp) (by decide)) (by decide) (by decide +kernel)).mono ?_; rintro e w' ⟨rfl, rfl⟩
  go_wp2_with fail
  refine (joined_at (a := 7#32) (b := 5#32) (r := 2) _ (by decide) (by decide) (by decide) (by rw [joined_is]; decide +kernel)).mono ?_; rintro e w' ⟨rfl, hb⟩
  have HB := Lib.hid hb
  clear hb
  go_wp2_with fail
  go_ret
  refine ⟨rfl, below_then ((((((Below.refl _ _).alloc (Nat.le_refl _) _).alloc (by simp) _).alloc (by simp; omega) _).alloc (by simp; omega) _)) (by simp; omega) HB.out⟩
end Go.Proofs.Ytilmjclfgjigeaa.Crc
