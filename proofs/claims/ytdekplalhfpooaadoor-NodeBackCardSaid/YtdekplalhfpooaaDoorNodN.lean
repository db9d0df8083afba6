/- The walk of the law NodeTakes: the call returns true, nothing that was there is changed. -/
import Derived.Test.YtdekplalhfpooaaDoorNodK
set_option linter.unusedVariables false
set_option linter.unusedSimpArgs false
namespace Go.Proofs.YtdekplalhfpooaaDoor.Nod
open Go Go.RowKit Go.Proofs.YtdekplalhfpooaaDoorW.PrintWords Go.Proofs.YtdekplalhfpooaaDoorW.PrintLast Go.Proofs.YtdekplalhfpooaaDoorW.PrintMore Base Odr Hlp

theorem goN_len : ∀ (n : Nat) (r K V : List Int), K.length = V.length → (goN n r K V).K.length = (goN n r K V).V.length := by
  intro n
  induction n with
  | zero => intro r K V h; exact h
  | succ n ih =>
    intro r K V h
    unfold goN stV
    split
    · rfl
    · split
      · rfl
      · split
        · rfl
        · split
          · rfl
          · exact ih _ _ _ (by simp [h])
theorem take_len (b : List Int) : (takeN b).K.length = (takeN b).V.length := by
  unfold takeN
  split
  · rfl
  · split
    · rfl
    · split
      · rfl
      · split
        · rfl
        · unfold endN
          split
          · rfl
          · split
            · exact goN_len _ _ _ _ rfl
            · rfl
theorem own_block {w : World} {base n c : Nat} {e : TypeId} {size : Nat} {A : Option Addr} {xs : List Value} (h : w.ownsRow base e size (.slice A n c) n xs) : ∀ a, A = some a → base ≤ a.block ∧ a.block < w.heap.size := by
  intro a ha
  subst ha
  have hb : (Value.slice (some a) n c).ownBlock = some a.block := rfl
  exact ⟨own_base h _ hb, own_lt h _ hb⟩
theorem reads_keep {w w' : World} {k : IntKind} {A : Option Addr} {n : Nat} {xs : List Int} {P : Nat → Prop} (h : ReadsInt w k A n xs) (hk : ∀ g, P g → w'.heap[g]? = w.heap[g]?) (hA : ∀ a, A = some a → P a.block) : ReadsInt w' k A n xs := by
  refine ⟨h.1, h.2.1, fun hn => ?_⟩
  obtain ⟨a, e, hc⟩ := h.2.2 hn
  refine ⟨a, e, fun j hj => ?_⟩
  have hb : (a.add j).block = a.block := by unfold Addr.add; split <;> rfl
  rw [World.cell?_of_block (w := w) (w' := w') (by rw [hb]; exact hk _ (hA a e))]
  exact hc j hj

end Go.Proofs.YtdekplalhfpooaaDoor.Nod
