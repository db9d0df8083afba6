/- stamp.Seal and stamp.Open, by their contracts (every input). -/
import Derived.Test.YtilmjclfgjigeaaStpA
import Derived.Test.YtilmjclfgjigeaaCrcI
set_option linter.unusedVariables false
set_option linter.unusedSimpArgs false
namespace Go.Proofs.Ytilmjclfgjigeaa.Stp
open Go Go.RowKit Go.Proofs.YtilmjclfgjigeaaW.PrintWords Go.Proofs.YtilmjclfgjigeaaW.PrintLast Go.Proofs.YtilmjclfgjigeaaW.PrintMore Base2 Odr
open Crc (more sum_any rsum_any)

theorem row_reads_take {W : World} {g : Nat} {e : TypeId} {fr : Nat × Nat} {k : IntKind} {xs ys : List Int} {n : Nat} (hg : W.heap[g]? = some (.cells (nums k (xs ++ ys)).toArray e fr)) (hn : xs.length = n) (h : n ≤ 9223372036854775807) : ReadsInt W k (some ⟨g, 0, none⟩) n xs := by
  subst hn
  refine ⟨rfl, h, fun _ => ⟨_, rfl, fun j hj => ?_⟩⟩
  rw [add_plain, cell_of_row W g j _ e fr hg]
  simp [nums, hj, List.getElem?_append_left]
theorem sum_is (xs : List Int) (A : Option Addr) (n c : Nat) (w : World) (HR : ReadsInt w .u8 A n xs) : Calls Try.prog 15 #[.slice A n c] w fun e w' => e = .returned (.int .u32 (sumOf xs)) ∧ w = w' := sum_any xs A n c w HR
theorem sum_at {xs : List Int} {A : Option Addr} {n c : Nat} {s : Int} (w : World) (HR : ReadsInt w .u8 A n xs) (h : sumOf xs = s) : Calls Try.prog 15 #[.slice A n c] w fun e w' => e = .returned (.int .u32 s) ∧ w = w' := by
  subst h; exact sum_any xs A n c w HR
theorem rsum_at {xs : List Int} {A : Option Addr} {n c : Nat} {s : Int} (w : World) (HR : ReadsInt w .u8 A n xs) (h : sumOf xs = s) : Calls Try.prog 16 #[.slice A n c] w fun e w' => e = .returned (.int .u32 s) ∧ w = w' := by
  subst h; exact rsum_any xs A n c w HR
theorem rsum_is (xs : List Int) (A : Option Addr) (n c : Nat) (w : World) (HR : ReadsInt w .u8 A n xs) : Calls Try.prog 16 #[.slice A n c] w fun e w' => e = .returned (.int .u32 (sumOf xs)) ∧ w = w' := rsum_any xs A n c w HR
theorem put_row (xs : List Int) (A : Option Addr) (n c : Nat) (m : Int) (size : Nat) (w : World) (HR : ReadsInt w .u8 A n xs) (hn : n + 8 ≤ 140737488355328) (h1 : 1 ≤ size) (h2 : size ≤ 8) :
    Calls Try.prog 33 #[.slice A n c, .int .u64 m, .int .i64 (size : Int)] w fun e w' => ∃ A' c', e = .returned (.slice A' (n + size) c') ∧ w'.ownsRow w.heap.size 5 1 (.slice A' (n + size) c') (n + size) (nums .u8 (xs ++ be m size)) ∧ Below w.heap.size w w' := by
  refine (put_any xs A n c m size w HR hn h1 h2).mono ?_
  rintro e w' ⟨v, rfl, ho, hb⟩
  have hl := HR.1
  have ho' : w'.ownsRow w.heap.size 5 1 v (xs ++ be m size).length (nums .u8 (xs ++ be m size)) := by rw [List.length_append, be_length, hl]; exact ho
  obtain ⟨A1, c1, rfl, hr1⟩ := own_reads ho'
  have e : (xs ++ be m size).length = n + size := by rw [List.length_append, be_length, hl]
  rw [e]
  exact ⟨A1, c1, rfl, by rw [e] at ho'; exact ho', hb⟩

theorem src_of {w : World} {A : Option Addr} {n : Nat} {xs : List Int} (h : ReadsInt w .u8 A n xs) (o : Obj) (hn : 0 < n) : ∃ ad, A = some ad ∧ ∀ j v, (nums .u8 xs)[j]? = some v → (w.alloc o).cell? (ad.add j) = some v := by
  obtain ⟨hl, -, hp⟩ := h
  obtain ⟨ad, rfl, hc⟩ := hp hn
  refine ⟨ad, rfl, fun j v hv => ?_⟩
  have hj : j < xs.length := by
    have := (List.getElem?_eq_some_iff.1 hv).1; rwa [nums_length] at this
  have e : v = .int .u8 (rd xs j) := by
    simp [nums, hj] at hv
    rw [← hv]; simp [rd, hj]
  rw [e]
  exact alloc_cell (hc j (by omega)) o
theorem nums_one (k : IntKind) (xs : List Int) : ∀ v ∈ nums k xs, v.oneCell' = true := by
  intro v hv
  simp only [nums, List.mem_map] at hv
  obtain ⟨x, -, rfl⟩ := hv
  rfl
theorem copy_pad (p : List Int) (A : Option Addr) (n c : Nat) (w : World) (HR : ReadsInt w .u8 A n p) (hn : n ≤ 240) :
    ∃ w1, (Builtin.copy_ #[23, 23] 3 #[.slice (some ⟨w.heap.size, 0, none⟩) 240 256, .slice A n c]).run Try.prog (w.alloc (.cells (madeCells #[.int .u8 0] 256) 5)) = .ok (.int .i64 (n : Int)) w1 ∧
      w1.heap[w.heap.size]? = some (.cells (nums .u8 (pad p ++ List.replicate 16 0)).toArray 5 (0, 0)) ∧ Below w.heap.size w w1 := by
  have hl := HR.1
  subst hl
  obtain ⟨Z, hZ⟩ : ∃ Z, Z = List.replicate 256 (0 : Int) := ⟨_, rfl⟩
  have hz : madeCells #[Value.int .u8 0] 256 = (nums .u8 Z).toArray := by rw [hZ]; kernel_rfl
  have hzl : Z.length = 256 := by rw [hZ]; exact List.length_replicate
  rw [hz]
  have hb0 : Below w.heap.size w (w.alloc (.cells (nums .u8 Z).toArray 5)) := (Below.refl _ _).alloc (Nat.le_refl _) _
  by_cases h0 : p.length = 0
  · obtain rfl : p = [] := List.eq_nil_of_length_eq_zero h0
    refine ⟨_, run_copy_none _ 23 23 3 5 _ _ _ _ _ _ Try.underlying23 (by kernel_rfl) rfl, ?_, hb0⟩
    rw [heap_alloc_new, hZ]
    unfold pad
    rw [List.nil_append, List.replicate_append_replicate]; rfl
  · obtain ⟨ad, rfl, hs⟩ := src_of HR (.cells (nums .u8 Z).toArray 5) (by omega)
    have h := run_copy_row (P := Try.prog) (w.alloc (.cells (nums .u8 Z).toArray 5)) 23 23 3 5 w.heap.size 0 240 256 ad p.length c (nums .u8 Z).toArray 5 (nums .u8 p) Try.underlying23 (by kernel_rfl) (heap_alloc_new _ _) (by rw [nums_length]; exact (Nat.min_eq_left hn).symm) hs (by rw [List.size_toArray, nums_length, nums_length, hzl]; omega) (nums_one _ _)
    refine ⟨_, by rw [nums_length] at h; exact h, ?_, below_setRow hb0 (Nat.le_refl _) _⟩
    rw [setRow_heap _ _ _ _ _ _ (heap_alloc_new _ _)]
    have e : List.take 0 (nums .u8 Z) ++ nums .u8 p ++ List.drop (0 + p.length) (nums .u8 Z) = nums .u8 (pad p ++ List.replicate 16 0) := by
      rw [List.take_zero, List.nil_append, hZ]
      unfold pad nums
      rw [← List.map_drop, ← List.map_append, List.drop_replicate, List.append_assoc, List.replicate_append_replicate]
      congr 3
      omega
    show some (Obj.cells (List.take 0 (nums .u8 Z) ++ nums .u8 p ++ List.drop (0 + p.length) (nums .u8 Z)).toArray 5) = _
    rw [e]
theorem reads_of_own {w : World} {base m n c : Nat} {A : Option Addr} {xs : List Int} (h : w.ownsRow base 5 1 (.slice A n c) m (nums .u8 xs)) (hl : xs.length = n) (hmn : m = n) : ReadsInt w .u8 A n xs := by
  subst hl; subst hmn
  exact reads_own h

set_option maxHeartbeats 1600000 in
theorem seal_long (p : List Int) (A : Option Addr) (n c : Nat) (at_ kind : Int) (w : World) (hn : 240 < n) :
    Calls Try.prog 22 #[.slice A n c, .int .i64 at_, .int .u8 kind] w fun e w' => e = .returned (.tuple #[.slice none 0 0, .int .i64 3]) ∧ w = w' := by
  go_enter Try.func22, Try.ntmps22
  go_wp2
  go_ret2
  exact ⟨rfl, rfl⟩

theorem make240 : ∀ W : World, (Instr.makeSlice 23 (.int .i64 240) (.int .i64 256)).run Try.prog W = .ok (.slice (some ⟨W.heap.size, 0, none⟩) 240 256) (W.alloc (.cells (madeCells #[.int .u8 0] 256) 5)) := by
  intro W; kernel_rfl
set_option maxHeartbeats 1600000 in
theorem seal_ok (p : List Int) (A : Option Addr) (n c : Nat) (at_ kind : Int) (w : World) (HR : ReadsInt w .u8 A n p) (hn : n ≤ 240) (h0 : 0 ≤ kind) (h1 : kind < 256) :
    Calls Try.prog 22 #[.slice A n c, .int .i64 at_, .int .u8 kind] w fun e w' => ∃ A' c', e = .returned (.tuple #[.slice A' 256 c', .int .i64 0]) ∧ w'.ownsRow w.heap.size 5 1 (.slice A' 256 c') 256 (nums .u8 (sealL p at_ kind)) ∧ Below w.heap.size w w' := by
  have hl := HR.1
  subst hl
  have hmk := make240
  obtain ⟨w1, hcopy, hr1, hb1⟩ := copy_pad p A p.length c w HR hn
  have HR1 := Lib.hid (row_reads_take hr1 (pad_length p hn) (by omega))
  have HB1 := Lib.hid hb1
  clear hb1 hr1 HR
  go_enter Try.func22, Try.ntmps22
  go_wp2_with fail
  refine (put_row (pad p) _ 240 256 (u64 at_) 8 _ HR1.out (by omega) (by omega) (by omega)).mono ?_
  rintro e w2 ⟨A2, c2, rfl, ho2, hb2⟩
  have HB2 := Lib.hid (below_then HB1.out HB1.out.size hb2)
  have HR2 := Lib.hid (reads_of_own (xs := pad p ++ be (u64 at_) 8) ho2 (by simp [pad_length p hn, be_length]) rfl)
  clear ho2 hb2
  go_wp2_with fail
  refine (put_row (pad p ++ be (u64 at_) 8) _ 248 c2 kind 4 _ HR2.out (by omega) (by omega) (by omega)).mono ?_
  rintro e w3 ⟨A3, c3, rfl, ho3, hb3⟩
  have HB3 := Lib.hid (below_then HB2.out HB2.out.size hb3)
  have HR3 := Lib.hid (reads_of_own (xs := head p at_ kind) ho3 (head_length p at_ kind hn) rfl)
  clear ho3 hb3
  go_wp2_with fail
  obtain ⟨s, hs, s0, s1⟩ : ∃ s, sumOf (head p at_ kind) = s ∧ 0 ≤ s ∧ s < 4294967296 := ⟨_, rfl, sumOf_range _⟩
  obtain ⟨l, hl⟩ : ∃ l, head p at_ kind = l := ⟨_, rfl⟩
  have hsl : sealL p at_ kind = l ++ be s 4 := by rw [← hs, ← hl]; rfl
  rw [hl] at HR3 hs
  have HSL := Lib.hid hsl
  clear hsl
  have HS := Lib.hid hs
  have HL := Lib.hid hl
  clear hs hl
  (with_reducible refine (sum_at (s := s) _ HR3.out HS.out).mono ?_); rintro e w' ⟨rfl, rfl⟩
  go_wp2_with fail
  refine (put_row l _ 252 c3 s 4 _ HR3.out (by omega) (by omega) (by omega)).mono ?_
  rintro e w4 ⟨A4, c4, rfl, ho4, hb4⟩
  have HB4 := Lib.hid (below_then HB3.out HB3.out.size hb4)
  have HO4 := Lib.hid ho4
  clear ho4 hb4
  go_wp2_with fail
  go_ret2
  rw [HSL.out]
  exact ⟨A4, c4, rfl, own_weaken HO4.out HB3.out.size, HB4.out⟩
end Go.Proofs.Ytilmjclfgjigeaa.Stp
