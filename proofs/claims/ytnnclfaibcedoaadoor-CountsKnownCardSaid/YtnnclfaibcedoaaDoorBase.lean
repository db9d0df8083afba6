/- Small laws that the walks of this seat share: worlds, slices that are read, literals, cuts, bounds (no condition). -/
import Derived.Laws.Rows
import Derived.Laws.Tables
import Derived.Laws.CopyOwn
import Derived.Laws.BitsLemmas
import Derived.Lib.Hide
import Derived.Lib.SmallJoins
import Derived.WalkSpells
import Derived.Test.YtnnclfaibcedoaaDoorProg
import Derived.Test.YtnnclfaibcedoaaDoorWMore
set_option linter.unusedVariables false
set_option linter.unusedSimpArgs false
namespace Go.Proofs.YtnnclfaibcedoaaDoor.Base
open Go Go.RowKit Go.Proofs.YtnnclfaibcedoaaDoorW.PrintWords Go.Proofs.YtnnclfaibcedoaaDoorW.PrintLast Go.Proofs.YtnnclfaibcedoaaDoorW.PrintMore
section
variable {P : Program}
/-- A whole variable of several cells is read, as an operation's run. -/
theorem exec_load_row {ev : Operand → Value} {o : Oper} {w : World} (ty : TypeId) (x : Operand) (ho : o.op = .load ty x)
    (g : Nat) (hx : ev x = .pointer (some ⟨g, 0, none⟩)) (t : TypeId) (cs : Array Value) (fr : Nat × Nat) (d : TypeDesc) (hg : w.heap[g]? = some (.cells cs t fr))
    (hu : P.underlying ty = some d) (hd : (match d with | .struct _ | .array _ _ => true | _ => false) = true) (hi : (P.info? ty).map (·.size) = some cs.size) :
    (execOp ev o).run P w = .ok (.value (.agg cs)) w := by
  unfold execOp
  simp only [ho, hx, Instr.loadAt, Instr.sureAddr, Sem.run_bind, Sem.run_pure, Result.andThen_ok, run_loadVar_row w g t ty cs fr d hg hu hd hi]
theorem exec_store_row {ev : Operand → Value} {o : Oper} {w : World} (ty : TypeId) (x y : Operand) (ho : o.op = .store ty x y)
    (g : Nat) (cells : Array Value) (hx : ev x = .pointer (some ⟨g, 0, none⟩)) (hy : ev y = .agg cells)
    (t : TypeId) (old : Array Value) (hg : w.heap[g]? = some (.cells old t (0, 0))) (hi : (P.info? ty).map (·.size) = some cells.size)
    (hold : old.size = cells.size) (h1 : cells.all (·.oneCell') = true) :
    (execOp ev o).run P w = .ok .skip (w.setRow g cells) := by
  unfold execOp
  simp only [ho, hx, hy, Instr.storeAt, Instr.sureAddr, Sem.run_bind, Sem.run_pure, Result.andThen_ok, run_storeVar_row w g t ty old cells hg hi hold h1]
/-- 'xs[lo:hi]' of a slice that is read: the address is a letter. -/
theorem cut_two (t e : TypeId) {i : TypeInfo} (ht : P.underlying t = some (.slice e)) (hi : P.info? e = some i) (hsz : i.size = 1) (A : Option Addr) (n c lo hi' : Nat) (h1 : lo ≤ hi') (h2 : hi' ≤ n) (hc : n ≤ c) :
    ∃ A' : Option Addr, (∀ W : World, (Instr.slice t (.slice A n c) (some (.int .i64 (lo : Int))) (some (.int .i64 (hi' : Int))) none).run P W = .ok (.slice A' (hi' - lo) (c - lo)) W) ∧
      ∀ (w : World) (k : IntKind) (xs : List Int), ReadsInt w k A n xs → ReadsInt w k A' (hi' - lo) ((xs.take hi').drop lo) := by
  refine ⟨_, cut_mid t e .i64 .i64 ht hi 1 hsz A n c lo hi' (by omega) (by omega) (by omega) hc, fun w k xs h => ?_⟩
  have h' := (h.take_ hi' h2).drop_ (c := c) lo h1 (by omega)
  simpa using h'
end
theorem alloc_row {w : World} {g : Nat} {o : Obj} (h : w.heap[g]? = some o) (x : Obj) : (w.alloc x).heap[g]? = some o := by
  show (w.heap.push x)[g]? = _
  rw [Array.getElem?_push, if_neg (Nat.ne_of_lt (Array.getElem?_eq_some_iff.1 h).1)]; exact h
theorem alloc_cell {w : World} {a : Addr} {v : Value} (h : w.cell? a = some v) (x : Obj) : (w.alloc x).cell? a = some v :=
  (World.cell?_alloc_lt w x a (block_lt_of_cell h)).trans h
theorem alloc_free {w : World} {a : Addr} {v : Value} (hc : w.cell? a = some v) (h : w.frozen? a = false) (x : Obj) : (w.alloc x).frozen? a = false :=
  (World.frozen?_alloc_old w x a (Nat.ne_of_lt (block_lt_of_cell hc))).trans h
theorem reads_nil (W : World) (k : IntKind) (A : Option Addr) : ReadsInt W k A 0 [] := ⟨rfl, by omega, fun h => absurd h (by omega)⟩
theorem reads_drew {w : World} {k : IntKind} {A : Option Addr} {n : Nat} {xs : List Int} (h : ReadsInt w k A n xs) : ReadsInt w.drew k A n xs := h
theorem reads_own {w : World} {base n c : Nat} {e : TypeId} {k : IntKind} {A : Option Addr} {xs : List Int} (h : w.ownsRow base e 1 (.slice A n c) n (nums k xs)) : ReadsInt w k A n xs := by
  obtain ⟨A', c', he, hr⟩ := own_reads h
  injection he with h1
  subst h1
  exact hr
theorem row_reads {W : World} {g : Nat} {e : TypeId} {fr : Nat × Nat} {k : IntKind} {xs : List Int} (hg : W.heap[g]? = some (.cells (nums k xs).toArray e fr)) (h : xs.length ≤ 9223372036854775807) : ReadsInt W k (some ⟨g, 0, none⟩) xs.length xs := by
  refine ⟨rfl, h, fun _ => ⟨_, rfl, fun j hj => ?_⟩⟩
  rw [add_plain, cell_of_row W g j _ e fr hg]
  simp [nums, hj]
theorem lit_at {W : World} {g : Nat} {e : TypeId} {fr : Nat × Nat} {k : IntKind} (xs : List Int) (hg : g = W.heap.size) (h : xs.length ≤ 9223372036854775807) : ReadsInt (W.alloc (.cells (nums k xs).toArray e fr)) k (some ⟨g, 0, none⟩) xs.length xs := by
  subst hg; exact row_reads (heap_alloc_new _ _) h
theorem made_at {W : World} {g : Nat} {e : TypeId} {k : IntKind} {m : Nat} (hg : g = W.heap.size) (h : m ≤ 9223372036854775807) : ReadsInt (W.alloc (.cells (madeCells #[.int k 0] m) e)) k (some ⟨g, 0, none⟩) m (List.replicate m 0) := by
  subst hg; exact reads_own (own_made W 0 e k m (by omega) h)
theorem info8 : (Tryd.prog.info? 5).map (fun i => (i.zero, i.size, i.bytes)) = some (some (.int .u8 0), 1, 1) := by kernel_rfl
theorem info8' : ∃ i, Tryd.prog.info? 5 = some i ∧ i.size = 1 := by
  obtain ⟨i, h, hs⟩ := Option.map_eq_some_iff.1 info8
  exact ⟨i, h, by simpa using (Prod.mk.inj (Prod.mk.inj hs).2).1⟩
theorem made8 (m : Nat) (h : m ≤ 281474976710656) : ∀ W : World, (Instr.makeSlice 24 (.int .i64 (m : Int)) (.int .i64 (m : Int))).run Tryd.prog W = .ok (.slice (some ⟨W.heap.size, 0, none⟩) m m) (W.alloc (.cells (madeCells #[.int .u8 0] m) 5)) :=
  print_make 24 5 .u8 1 Tryd.underlying24 (by kernel_rfl) (by omega) m (by omega)
theorem le_of_wf64 {a : Int} (h : (Lit.int .i64 a).wf = true) : -9223372036854775808 ≤ a ∧ a ≤ 9223372036854775807 := by
  have hmin : IntKind.i64.min = -9223372036854775808 := rfl
  have hmax : IntKind.i64.max = 9223372036854775807 := rfl
  simp only [Lit.wf, Bool.and_eq_true, decide_eq_true_eq] at h
  omega
theorem le_of_wfu64 {a : Int} (h : (Lit.int .u64 a).wf = true) : 0 ≤ a ∧ a < 18446744073709551616 := by
  have hmin : IntKind.u64.min = 0 := rfl
  have hmax : IntKind.u64.max = 18446744073709551615 := rfl
  simp only [Lit.wf, Bool.and_eq_true, decide_eq_true_eq] at h
  omega
theorem wfu64 {a : Int} (h : 0 ≤ a ∧ a < 18446744073709551616) : (Lit.int .u64 a).wf = true := by
  have hmin : IntKind.u64.min = 0 := rfl
  have hmax : IntKind.u64.max = 18446744073709551615 := rfl
  simp only [Lit.wf, Bool.and_eq_true, decide_eq_true_eq]
  omega
theorem le_of_wf8 {a : Int} (h : (Lit.int .u8 a).wf = true) : 0 ≤ a ∧ a < 256 := by
  have hmin : IntKind.u8.min = 0 := rfl
  have hmax : IntKind.u8.max = 255 := rfl
  simp only [Lit.wf, Bool.and_eq_true, decide_eq_true_eq] at h
  omega
theorem wf8 {a : Int} (h : 0 ≤ a ∧ a < 256) : (Lit.int .u8 a).wf = true := by
  have hmin : IntKind.u8.min = 0 := rfl
  have hmax : IntKind.u8.max = 255 := rfl
  simp only [Lit.wf, Bool.and_eq_true, decide_eq_true_eq]
  omega
theorem wrap_u64 (n : Int) : IntKind.u64.wrap n = n % 18446744073709551616 := by simp [IntKind.wrap, IntKind.bits, IntKind.signed]
theorem ret_eq {v u : Value} (h : v = u) : Ending.returned v = .returned u := by rw [h]
theorem bytes_inj {xs ys : List Int} (hx : ∀ x ∈ xs, (Lit.int .u8 x).wf = true) (hy : ∀ x ∈ ys, (Lit.int .u8 x).wf = true) (h : (strOfNums xs).toList = (strOfNums ys).toList) : xs = ys := by
  have h1 : ∀ zs : List Int, (strOfNums zs).toList = zs.map fun n => UInt8.ofNat n.toNat := fun zs => by
    rw [ByteArray.toList_eq]; exact strOfNums_data zs
  rw [h1, h1] at h
  have h2 : ∀ zs : List Int, (∀ x ∈ zs, (Lit.int .u8 x).wf = true) → (zs.map fun n => UInt8.ofNat n.toNat).map (fun b => (b.toNat : Int)) = zs := by
    intro zs hz
    rw [List.map_map]
    conv => rhs; rw [← List.map_id zs]
    apply List.map_congr_left
    intro x hm
    have hw := le_of_wf8 (hz x hm)
    show ((UInt8.ofNat x.toNat).toNat : Int) = x
    rw [UInt8.toNat_ofNat']
    omega
  rw [← h2 xs hx, ← h2 ys hy, h]
end Go.Proofs.YtnnclfaibcedoaaDoor.Base
