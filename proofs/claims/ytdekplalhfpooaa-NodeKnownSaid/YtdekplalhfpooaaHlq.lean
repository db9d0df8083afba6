/- Appending to a row of the call's own while another one and some blocks stand beside (whatever the program). -/
import Derived.Test.YtdekplalhfpooaaHlp
set_option linter.unusedVariables false
set_option linter.unusedSimpArgs false
namespace Go.Proofs.Ytdekplalhfpooaa.Hlp
open Go Go.RowKit Go.Proofs.YtdekplalhfpooaaW.PrintWords Go.Proofs.YtdekplalhfpooaaW.PrintLast Go.Proofs.YtdekplalhfpooaaW.PrintMore Base Odr

theorem exec_app {t : TypeId} {ev : Operand → Value} {o : Oper} {w w' : World} {v u r : Value} (s x : Operand) (ho : o.op = .call { callee := .builtin .append, args := #[s, x], argTypes := #[t, t] }) (hs : ev s = v) (hx : ev x = u)
    (hr : ∀ ty, (Builtin.append_ #[t, t] ty #[v, u]).run Try.prog w = .ok r w') : (execOp ev o).run Try.prog w = .ok (.value r) w' := by
  unfold execOp
  simp only [ho, resolve, invoke, builtin, Sem.run_bind, Sem.run_pure, Result.andThen_ok, List.map_toArray, List.map_cons, List.map_nil, hs, hx, hr]
theorem app_one {w : World} {base bytes n c : Nat} {t e : TypeId} {k : IntKind} {v : Value} {xs : List Int} {y : Int} {ad : Addr} (ht : Try.prog.underlying t = some (.slice e)) (hinfo : (Try.prog.info? e).map (fun i => (i.zero, i.size, i.bytes)) = some (some (.int k 0), 1, bytes))
    (hown : w.ownsRow base e 1 v n (nums k xs)) (hc : w.cell? ad = some (.int k y)) (hl : (n + 1) * bytes ≤ 140737488355328) (hn : n + 1 ≤ 9223372036854775807) (hb : base ≤ w.heap.size) :
    ∃ A' c' w', (∀ ty, (Builtin.append_ #[t, t] ty #[v, .slice (some ad) 1 c]).run Try.prog w = .ok (.slice A' (n + 1) c') w') ∧ w'.ownsRow base e 1 (.slice A' (n + 1) c') (n + 1) (nums k (xs ++ [y])) ∧ w.grownBy w' v.ownBlock ∧ ((Value.slice A' (n + 1) c').ownBlock = v.ownBlock ∨ (Value.slice A' (n + 1) c').ownBlock = some w.heap.size) := by
  obtain ⟨i, hi, hzz⟩ := Option.map_eq_some_iff.1 hinfo
  simp only [Prod.mk.injEq] at hzz
  obtain ⟨hz0, hz1, hz2⟩ := hzz
  obtain ⟨v1, w1, hr, h2, h3, h4, h5⟩ := run_append_own_at (P := Try.prog) (w := w) base t 0 e i (.int k 0) 1 bytes ht hi hz0 hz1 hz2 rfl (by omega) v n (nums k xs) hown ad 1 c [.int k y] rfl
    (by intro j u hu; rcases j with _ | j
        · rw [show ad.add 0 = ad from by simp [Addr.add]]; simp at hu; rw [hc, hu]
        · simp at hu)
    (by intro u hu; simp at hu; rw [hu]; rfl) (by simp only [maxLen]; omega) hl hb
  have e2 : nums k xs ++ [Value.int k y] = nums k (xs ++ [y]) := by simp [nums]
  rw [e2] at h2
  obtain ⟨A', c', rfl⟩ := own_slice h2
  refine ⟨A', c', w1, fun ty => ?_, h2, h3, h5⟩
  have : (Builtin.append_ #[t, t] ty #[v, .slice (some ad) 1 c]) = (Builtin.append_ #[t, t] 0 #[v, .slice (some ad) 1 c]) := rfl
  rw [this]; exact hr

/-- Two rows of the call's own, a block with their values, and blocks that stand. -/
structure St (w : World) (base gN : Nat) (tN e : TypeId) (nd : Array Value) (R : List (Nat × Obj)) (vk vv : Value) (nk nv : Nat) (K V : List Int) (W : World) : Prop where
  ok : W.ownsRow base e 1 vk nk (nums .u64 K)
  ov : W.ownsRow base e 1 vv nv (nums .u64 V)
  sep : ∀ p, vk.ownBlock = some p → vv.ownBlock ≠ some p
  node : W.heap[gN]? = some (.cells nd tN)
  rows : ∀ p ∈ R, W.heap[p.1]? = some p.2 ∧ p.1 < base ∧ p.1 ≠ gN
  bel : Below w.heap.size w W
  lt : gN < base
  le : base ≤ W.heap.size
  hN : w.heap.size ≤ gN
variable {w W W' : World} {base gN : Nat} {tN e : TypeId} {nd : Array Value} {R : List (Nat × Obj)} {vk vv : Value} {nk nv : Nat} {K V : List Int}
theorem St.drew (h : St w base gN tN e nd R vk vv nk nv K V W) : St w base gN tN e nd R vk vv nk nv K V W.drew := ⟨h.ok, h.ov, h.sep, h.node, h.rows, below_drew h.bel, h.lt, h.le, h.hN⟩
theorem St.alloc (h : St w base gN tN e nd R vk vv nk nv K V W) (o : Obj) : St w base gN tN e nd R vk vv nk nv K V (W.alloc o) := by
  have b := (Below.refl W.heap.size W).alloc (Nat.le_refl _) o
  exact ⟨pw_own_below h.ok b, pw_own_below h.ov b, h.sep, keep_row h.node b, fun p hp => ⟨keep_row (h.rows p hp).1 b, (h.rows p hp).2⟩, h.bel.alloc h.bel.size o, h.lt, Nat.le_trans h.le b.size, h.hN⟩
theorem St.below (h : St w base gN tN e nd R vk vv nk nv K V W) (b : Below W.heap.size W W') : St w base gN tN e nd R vk vv nk nv K V W' :=
  ⟨pw_own_below h.ok b, pw_own_below h.ov b, h.sep, keep_row h.node b, fun p hp => ⟨keep_row (h.rows p hp).1 b, (h.rows p hp).2⟩, below_then h.bel h.bel.size b, h.lt, Nat.le_trans h.le b.size, h.hN⟩
theorem St.keep (h : St w base gN tN e nd R vk vv nk nv K V W) {row : Option Nat} (hg : W.grownBy W' row) (hr : ∀ k, row = some k → base ≤ k) {g : Nat} {o : Obj} (ho : W.heap[g]? = some o) (hgb : g < base) : W'.heap[g]? = some o := by
  rw [hg.block g (Array.getElem?_eq_some_iff.1 ho).1 (fun he => by have := hr g he.symm; omega)]; exact ho
theorem St.app_k (h : St w base gN tN e nd R vk vv nk nv K V W) {vk' : Value} {nk' : Nat} {K' : List Int} (ho : W'.ownsRow base e 1 vk' nk' (nums .u64 K')) (hg : W.grownBy W' vk.ownBlock) (hv : vk'.ownBlock = vk.ownBlock ∨ vk'.ownBlock = some W.heap.size) :
    St w base gN tN e nd R vk' vv nk' nv K' V W' := by
  have hr : ∀ k, vk.ownBlock = some k → base ≤ k := fun k hk => own_base h.ok k hk
  refine ⟨ho, own_other h.ov hg ?_, ?_, h.keep hg hr h.node h.lt, fun p hp => ⟨h.keep hg hr (h.rows p hp).1 (h.rows p hp).2.1, (h.rows p hp).2⟩, pw_below_grown h.bel _ h.bel.size hg (fun k hk => Nat.le_trans h.hN (Nat.le_trans (Nat.le_of_lt h.lt) (hr k hk))), h.lt, Nat.le_trans h.le hg.size, h.hN⟩
  · cases hvv : vv.ownBlock with
    | none => exact .inl rfl
    | some p =>
      refine .inr fun hh => ?_
      exact h.sep p hh.symm hvv
  · intro p hp hq
    rcases hv with hv | hv
    · exact h.sep p (hv ▸ hp) hq
    · rw [hv] at hp
      injection hp with hp
      have := own_lt h.ov p hq
      omega
theorem St.app_v (h : St w base gN tN e nd R vk vv nk nv K V W) {vv' : Value} {nv' : Nat} {V' : List Int} (ho : W'.ownsRow base e 1 vv' nv' (nums .u64 V')) (hg : W.grownBy W' vv.ownBlock) (hv : vv'.ownBlock = vv.ownBlock ∨ vv'.ownBlock = some W.heap.size) :
    St w base gN tN e nd R vk vv' nk nv' K V' W' := by
  have hr : ∀ k, vv.ownBlock = some k → base ≤ k := fun k hk => own_base h.ov k hk
  refine ⟨own_other h.ok hg ?_, ho, ?_, h.keep hg hr h.node h.lt, fun p hp => ⟨h.keep hg hr (h.rows p hp).1 (h.rows p hp).2.1, (h.rows p hp).2⟩, pw_below_grown h.bel _ h.bel.size hg (fun k hk => Nat.le_trans h.hN (Nat.le_trans (Nat.le_of_lt h.lt) (hr k hk))), h.lt, Nat.le_trans h.le hg.size, h.hN⟩
  · cases hvk : vk.ownBlock with
    | none => exact .inl rfl
    | some p => exact .inr fun hh => h.sep p hvk hh.symm
  · intro p hp hq
    rcases hv with hv | hv
    · exact h.sep p hp (hv ▸ hq)
    · rw [hv] at hq
      injection hq with hq
      have := own_lt h.ok p hp
      omega
theorem St.put (h : St w base gN tN e nd R vk vv nk nv K V W) (i : Nat) (u : Value) {nd' : Array Value} (he : nd.setIfInBounds i u = nd') : St w base gN tN e nd' R vk vv nk nv K V (W.setCell ⟨gN, i, none⟩ u) :=
  ⟨own_setCell h.ok (own_ne h.ok h.lt) _, own_setCell h.ov (own_ne h.ov h.lt) _, h.sep, blk_put h.node i u he, fun p hp => ⟨(Below.heap_setCell _ _ _ _ (h.rows p hp).2.2).trans (h.rows p hp).1, (h.rows p hp).2⟩, h.bel.setCell h.hN _, h.lt, by rw [World.size_setCell]; exact h.le, h.hN⟩
end Go.Proofs.Ytdekplalhfpooaa.Hlp
