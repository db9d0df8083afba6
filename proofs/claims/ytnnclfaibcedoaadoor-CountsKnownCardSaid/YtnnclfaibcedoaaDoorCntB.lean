/- Counts: lists of pages that are read or of the call's own; padded, by its contract (every input). -/
import Derived.BigQuiet
import Derived.Test.YtnnclfaibcedoaaDoorCntA
set_option linter.unusedVariables false
set_option linter.unusedSimpArgs false
namespace Go.Proofs.YtnnclfaibcedoaaDoor.Cnt
open Go Go.RowKit Go.Proofs.YtnnclfaibcedoaaDoorW.PrintWords Go.Proofs.YtnnclfaibcedoaaDoorW.PrintLast Go.Proofs.YtnnclfaibcedoaaDoorW.PrintMore Base Odr Hlp Trm

structure Pg where
  ad : Option Addr
  n : Nat
  cap : Nat
  bs : List Int
@[reducible] def sl (p : Pg) : Value := .slice p.ad p.n p.cap
def pg0 : Pg := ⟨none, 0, 0, []⟩
/-- A list of pages that is read. -/
structure ReadsP (W : World) (A : Option Addr) (n : Nat) (ps : List Pg) : Prop where
  row : ReadsOf sl pg0 W A n ps
  pgs : ∀ p ∈ ps, ReadsInt W .u8 p.ad p.n p.bs
/-- A list of pages of the call's own. -/
structure OwnsP (W : World) (base : Nat) (v : Value) (ps : List Pg) : Prop where
  row : W.ownsRow base 24 1 v ps.length (encs sl ps)
  pgs : ∀ p ∈ ps, W.ownsRow base 5 1 (sl p) p.n (nums .u8 p.bs)
theorem ReadsP.below {W W' : World} {A : Option Addr} {n : Nat} {ps : List Pg} (h : ReadsP W A n ps) (b : Below W.heap.size W W') : ReadsP W' A n ps := ⟨h.row.below b, fun p hp => (h.pgs p hp).below b⟩
theorem OwnsP.below {W W' : World} {base : Nat} {v : Value} {ps : List Pg} (h : OwnsP W base v ps) (b : Below W.heap.size W W') : OwnsP W' base v ps := ⟨pw_own_below h.row b, fun p hp => pw_own_below (h.pgs p hp) b⟩
theorem OwnsP.weaken {W : World} {base base' : Nat} {v : Value} {ps : List Pg} (h : OwnsP W base v ps) (b : base' ≤ base) : OwnsP W base' v ps := ⟨own_weaken h.row b, fun p hp => own_weaken (h.pgs p hp) b⟩
theorem OwnsP.reads {W : World} {base : Nat} {v : Value} {ps : List Pg} (h : OwnsP W base v ps) : ∃ A c, v = .slice A ps.length c ∧ ReadsP W A ps.length ps := by
  obtain ⟨A, c, e, hr⟩ := own_reads_of (d := pg0) h.row
  exact ⟨A, c, e, hr, fun p hp => reads_own (h.pgs p hp)⟩
theorem OwnsP.nil (W : World) (base : Nat) : OwnsP W base (.slice none 0 0) [] := ⟨own_nil _ _ _ _, fun p hp => by cases hp⟩
theorem ReadsP.nil (W : World) (A : Option Addr) : ReadsP W A 0 [] := ⟨⟨rfl, by omega, fun h => absurd h (by omega)⟩, fun p hp => by cases hp⟩
/-- The page at a place. -/
theorem ReadsP.get {W : World} {A : Option Addr} {n : Nat} {ps : List Pg} (h : ReadsP W A n ps) (i : Nat) (hi : i < n) : ∃ a p, A = some a ∧ ps[i]? = some p ∧ W.cell? (a.add i) = some (.slice p.ad p.n p.cap) ∧ ReadsInt W .u8 p.ad p.n p.bs := by
  obtain ⟨a, rfl, hc⟩ := h.row.2.2 (by omega)
  have hl := h.row.1
  refine ⟨a, ps[i]'(by omega), rfl, List.getElem?_eq_getElem _, ?_, h.pgs _ (List.getElem_mem _)⟩
  rw [hc i hi, List.getD_eq_getElem?_getD, List.getElem?_eq_getElem (show i < ps.length by omega)]
  rfl
/-- A page is put behind. -/
theorem OwnsP.app {W W1 : World} {base : Nat} {v v1 : Value} {ps : List Pg} {p : Pg} (h : OwnsP W base v ps) (hp : W.ownsRow base 5 1 (sl p) p.n (nums .u8 p.bs))
    (ho : W1.ownsRow base 24 1 v1 (ps ++ [p]).length (encs sl (ps ++ [p]))) (hg : W.grownBy W1 v.ownBlock) : OwnsP W1 base v1 (ps ++ [p]) := by
  refine ⟨ho, fun q hq => ?_⟩
  rcases List.mem_append.1 hq with hq | hq
  · exact own_other (h.pgs q hq) hg (own_type_ne (h.pgs q hq) h.row (by decide))
  · obtain rfl : q = p := by simpa using hq
    exact own_other hp hg (own_type_ne hp h.row (by decide))
theorem info24 : (Tryd.prog.info? 24).map (fun i => (i.zero, i.size, i.bytes)) = some (some (.slice none 0 0), 1, 24) := by kernel_rfl
def pad (p : List Int) : List Int := p ++ List.replicate (240 - p.length) 0
theorem pad_length (p : List Int) (h : p.length ≤ 240) : (pad p).length = 240 := by unfold pad; rw [List.length_append, List.length_replicate]; omega
theorem src_of {w : World} {A : Option Addr} {n : Nat} {xs : List Int} (h : ReadsInt w .u8 A n xs) (o : Obj) (hn : 0 < n) : ∃ ad, A = some ad ∧ ∀ j v, (nums .u8 xs)[j]? = some v → (w.alloc o).cell? (ad.add j) = some v := by
  obtain ⟨hl, -, hp⟩ := h
  obtain ⟨ad, rfl, hc⟩ := hp hn
  refine ⟨ad, rfl, fun j v hv => ?_⟩
  have hj : j < xs.length := by
    have := (List.getElem?_eq_some_iff.1 hv).1; rwa [nums_length] at this
  have e : v = .int .u8 (rd xs j) := by
    simp [nums, hj] at hv
    rw [← hv]; simp [rd, hj]
  rw [e]
  exact alloc_cell (hc j (by omega)) o
theorem nums_one (k : IntKind) (xs : List Int) : ∀ v ∈ nums k xs, v.oneCell' = true := by
  intro v hv
  simp only [nums, List.mem_map] at hv
  obtain ⟨x, -, rfl⟩ := hv
  rfl
theorem copy_pad (p : List Int) (A : Option Addr) (n c : Nat) (w : World) (HR : ReadsInt w .u8 A n p) (hn : n ≤ 240) :
    ∃ w1, (Builtin.copy_ #[24, 24] 3 #[.slice (some ⟨w.heap.size, 0, none⟩) 240 240, .slice A n c]).run Tryd.prog (w.alloc (.cells (madeCells #[.int .u8 0] 240) 5)) = .ok (.int .i64 (n : Int)) w1 ∧
      w1.heap[w.heap.size]? = some (.cells (nums .u8 (pad p)).toArray 5 (0, 0)) ∧ Below w.heap.size w w1 := by
  have hl := HR.1
  subst hl
  obtain ⟨Z, hZ⟩ : ∃ Z, Z = List.replicate 240 (0 : Int) := ⟨_, rfl⟩
  have hz : madeCells #[Value.int .u8 0] 240 = (nums .u8 Z).toArray := by rw [hZ]; kernel_rfl
  have hzl : Z.length = 240 := by rw [hZ]; exact List.length_replicate
  rw [hz]
  have hb0 : Below w.heap.size w (w.alloc (.cells (nums .u8 Z).toArray 5)) := (Below.refl _ _).alloc (Nat.le_refl _) _
  by_cases h0 : p.length = 0
  · obtain rfl : p = [] := List.eq_nil_of_length_eq_zero h0
    refine ⟨_, run_copy_none _ 24 24 3 5 _ _ _ _ _ _ Tryd.underlying24 (by kernel_rfl) rfl, ?_, hb0⟩
    rw [heap_alloc_new, hZ]
    rfl
  · obtain ⟨ad, rfl, hs⟩ := src_of HR (.cells (nums .u8 Z).toArray 5) (by omega)
    have h := run_copy_row (P := Tryd.prog) (w.alloc (.cells (nums .u8 Z).toArray 5)) 24 24 3 5 w.heap.size 0 240 240 ad p.length c (nums .u8 Z).toArray 5 (nums .u8 p) Tryd.underlying24 (by kernel_rfl) (heap_alloc_new _ _) (by rw [nums_length]; exact (Nat.min_eq_left hn).symm) hs (by rw [List.size_toArray, nums_length, nums_length, hzl]; omega) (nums_one _ _)
    refine ⟨_, by rw [nums_length] at h; exact h, ?_, below_setRow hb0 (Nat.le_refl _) _⟩
    rw [setRow_heap _ _ _ _ _ _ (heap_alloc_new _ _)]
    have e : List.take 0 (nums .u8 Z) ++ nums .u8 p ++ List.drop (0 + p.length) (nums .u8 Z) = nums .u8 (pad p) := by
      rw [List.take_zero, List.nil_append, hZ]
      unfold pad nums
      rw [← List.map_drop, ← List.map_append, List.drop_replicate, Nat.zero_add]
    rw [e]
theorem make240 : ∀ W : World, (Instr.makeSlice 24 (.int .i64 240) (.int .i64 240)).run Tryd.prog W = .ok (.slice (some ⟨W.heap.size, 0, none⟩) 240 240) (W.alloc (.cells (madeCells #[.int .u8 0] 240) 5)) := by
  intro W; kernel_rfl
set_option maxRecDepth 100000 in
set_option maxHeartbeats 1600000 in
/-- A page, padded: in new memory. -/
theorem padded_at (p : List Int) (A : Option Addr) (n c : Nat) (w : World) (HR : ReadsInt w .u8 A n p) (hn : n ≤ 240) :
    Calls Tryd.prog 20 #[.slice A n c] w fun e w' => e = .returned (.slice (some ⟨w.heap.size, 0, none⟩) 240 240) ∧ w'.ownsRow w.heap.size 5 1 (.slice (some ⟨w.heap.size, 0, none⟩) 240 240) 240 (nums .u8 (pad p)) ∧ Below w.heap.size w w' := by
  have hl := HR.1
  subst hl
  have hmk := make240
  obtain ⟨w1, hcopy, hr1, hb1⟩ := copy_pad p A p.length c w HR hn
  have HL := Lib.hid (pad_length p hn)
  have HR1 := Lib.hid hr1
  have HB1 := Lib.hid hb1
  clear hb1 hr1 HR hn
  go_enter Tryd.func20, Tryd.ntmps20
  go_wp2_with fail
  go_ret
  have hl := HL.out
  refine ⟨rfl, ⟨by rw [nums_length, hl], .inr ⟨w.heap.size, 240, _, rfl, Nat.le_refl _, HR1.out, Nat.le_refl _, by simp [maxLen], by rw [List.size_toArray, nums_length, hl], ?_⟩⟩, HB1.out⟩
  rw [List.toList_toArray]; exact List.take_of_length_le (by rw [nums_length, hl]; omega)
end Go.Proofs.YtnnclfaibcedoaaDoor.Cnt
