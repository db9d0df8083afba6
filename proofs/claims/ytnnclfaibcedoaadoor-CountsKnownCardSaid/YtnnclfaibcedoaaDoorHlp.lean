/- Small helpers on rows and cells (whatever the program). -/
import Derived.Test.YtnnclfaibcedoaaDoorOrd
set_option linter.unusedVariables false
set_option linter.unusedSimpArgs false
namespace Go.Proofs.YtnnclfaibcedoaaDoor.Hlp
open Go Go.RowKit Go.Proofs.YtnnclfaibcedoaaDoorW.PrintWords Go.Proofs.YtnnclfaibcedoaaDoorW.PrintLast Go.Proofs.YtnnclfaibcedoaaDoorW.PrintMore Base Odr
theorem cell_row {w : World} {g i : Nat} {cs : Array Value} {t : TypeId} {fr : Nat × Nat} {v : Value} (h : w.heap[g]? = some (.cells cs t fr)) (hv : cs[i]? = some v) : w.cell? ⟨g, i, none⟩ = some v := by
  rw [cell_of_row w g i cs t fr h]; exact hv
theorem keep_row {w w' : World} {g : Nat} {o : Obj} (h : w.heap[g]? = some o) (hb : Below w.heap.size w w') : w'.heap[g]? = some o := (hb.block _ (Array.getElem?_eq_some_iff.1 h).1).trans h
theorem cell_at {W : World} {k : IntKind} {A : Option Addr} {n : Nat} {xs : List Int} (H : ReadsInt W k A n xs) (j : Nat) (h : j < n) : ∃ ad, A = some ad ∧ W.cell? (ad.add j) = some (.int k (xs.getD j 0)) := by
  have h1 := H.1
  have h2 := H.2.1
  exact H.at_ (j : Int) (by omega) (by omega)
theorem reads_own_of {w : World} {base m n c : Nat} {e : TypeId} {k : IntKind} {A : Option Addr} {xs : List Int} (h : w.ownsRow base e 1 (.slice A n c) m (nums k xs)) (hl : xs.length = n) (hmn : m = n) : ReadsInt w k A n xs := by
  subst hl; subst hmn
  exact reads_own h
theorem own_cell {w : World} {base g n c : Nat} {xs : List Int} {k : IntKind} {e : TypeId} (h : w.ownsRow base e 1 (.slice (some ⟨g, 0, none⟩) n c) n (nums k xs)) (i : Nat) (x : Int) (hi : i < n) (hx : xs[i]? = some x) : w.cell? ⟨g, i, none⟩ = some (.int k x) := by
  have h' := (own_at h (i : Int) (by omega) (by omega)).1
  rw [show rd xs (i : Int) = x by simp [rd, hx]] at h'
  exact h'
theorem own_ne {w : World} {base : Nat} {e : TypeId} {size n : Nat} {v : Value} {xs : List Value} (h : w.ownsRow base e size v n xs) {p : Nat} (hp : p < base) : some p ≠ v.ownBlock := by
  intro he
  have := own_base h p he.symm
  omega
theorem own_setRow {w : World} {base : Nat} {e : TypeId} {size n : Nat} {v : Value} {xs : List Value} (h : w.ownsRow base e size v n xs) {g : Nat} (hne : some g ≠ v.ownBlock) (cs : Array Value) : (w.setRow g cs).ownsRow base e size v n xs := by
  obtain ⟨h1, h2⟩ := h
  refine ⟨h1, ?_⟩
  rcases h2 with h2 | ⟨k, cap, cur, rfl, hk, hh, r⟩
  · exact .inl h2
  · exact .inr ⟨k, cap, cur, rfl, hk, by rw [setRow_other _ _ _ _ (fun e => hne (by rw [← e]; rfl))]; exact hh, r⟩
/-- A block that is made: its world by a letter. -/
theorem made (w : World) (cs : Array Value) (t : TypeId) : ∃ w1, w.alloc (.cells cs t) = w1 ∧ Below w.heap.size w w1 ∧ w1.heap[w.heap.size]? = some (.cells cs t) ∧ w1.heap.size = w.heap.size + 1 :=
  ⟨_, rfl, (Below.refl _ _).alloc (Nat.le_refl _) _, heap_alloc_new _ _, World.size_alloc _ _⟩
end Go.Proofs.YtnnclfaibcedoaaDoor.Hlp
