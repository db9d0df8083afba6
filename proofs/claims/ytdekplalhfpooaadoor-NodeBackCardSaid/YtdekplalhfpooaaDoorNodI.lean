/- What bytes say as a node: the document's number and Take (every input). -/
import Derived.Test.YtdekplalhfpooaaDoorNodH
set_option linter.unusedVariables false
set_option linter.unusedSimpArgs false
namespace Go.Proofs.YtdekplalhfpooaaDoor.Nod
open Go Go.RowKit Go.Proofs.YtdekplalhfpooaaDoorW.PrintWords Go.Proofs.YtdekplalhfpooaaDoorW.PrintLast Go.Proofs.YtdekplalhfpooaaDoorW.PrintMore Base Odr Hlp

theorem St_app_k {w W W' : World} {base gN : Nat} {tN e : TypeId} {nd : Array Value} {R : List (Nat × Obj)} {vk vv : Value} {nk nv : Nat} {K V : List Int} (h : St w base gN tN e nd R vk vv nk nv K V W) {vk' : Value} {nk' : Nat} {K' : List Int} (ho : W'.ownsRow base e 1 vk' nk' (nums .u64 K')) (hg : W.grownBy W' vk.ownBlock) (hv : vk'.ownBlock = vk.ownBlock ∨ ∃ b, vk'.ownBlock = some b ∧ W.heap.size ≤ b) :
    St w base gN tN e nd R vk' vv nk' nv K' V W' := by
  have hr : ∀ k, vk.ownBlock = some k → base ≤ k := fun k hk => own_base h.ok k hk
  refine ⟨ho, own_other h.ov hg ?_, ?_, h.keep hg hr h.node h.lt, fun p hp => ⟨h.keep hg hr (h.rows p hp).1 (h.rows p hp).2.1, (h.rows p hp).2⟩, pw_below_grown h.bel _ h.bel.size hg (fun k hk => Nat.le_trans h.hN (Nat.le_trans (Nat.le_of_lt h.lt) (hr k hk))), h.lt, Nat.le_trans h.le hg.size, h.hN⟩
  · cases hvv : vv.ownBlock with
    | none => exact .inl rfl
    | some p => exact .inr fun hh => h.sep p hh.symm hvv
  · intro p hp hq
    rcases hv with hv | ⟨b, hb, hle⟩
    · exact h.sep p (hv ▸ hp) hq
    · rw [hb] at hp
      injection hp with hp
      have := own_lt h.ov p hq
      omega
theorem St_app_v {w W W' : World} {base gN : Nat} {tN e : TypeId} {nd : Array Value} {R : List (Nat × Obj)} {vk vv : Value} {nk nv : Nat} {K V : List Int} (h : St w base gN tN e nd R vk vv nk nv K V W) {vv' : Value} {nv' : Nat} {V' : List Int} (ho : W'.ownsRow base e 1 vv' nv' (nums .u64 V')) (hg : W.grownBy W' vv.ownBlock) (hv : vv'.ownBlock = vv.ownBlock ∨ ∃ b, vv'.ownBlock = some b ∧ W.heap.size ≤ b) :
    St w base gN tN e nd R vk vv' nk nv' K V' W' := by
  have hr : ∀ k, vv.ownBlock = some k → base ≤ k := fun k hk => own_base h.ov k hk
  refine ⟨own_other h.ok hg ?_, ho, ?_, h.keep hg hr h.node h.lt, fun p hp => ⟨h.keep hg hr (h.rows p hp).1 (h.rows p hp).2.1, (h.rows p hp).2⟩, pw_below_grown h.bel _ h.bel.size hg (fun k hk => Nat.le_trans h.hN (Nat.le_trans (Nat.le_of_lt h.lt) (hr k hk))), h.lt, Nat.le_trans h.le hg.size, h.hN⟩
  · cases hvk : vk.ownBlock with
    | none => exact .inl rfl
    | some p => exact .inr fun hh => h.sep p hvk hh.symm
  · intro p hp hq
    rcases hv with hv | ⟨b, hb, hle⟩
    · exact h.sep p hp (hv ▸ hq)
    · rw [hb] at hq
      injection hq with hq
      have := own_lt h.ok p hp
      omega
end Go.Proofs.YtdekplalhfpooaaDoor.Nod
