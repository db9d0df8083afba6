/- Pieces: a list that came in, opened; what tells an error at a piece, and counts; Each: by their contracts (every input). -/
import Derived.BigQuiet
import Derived.BigRegion
import Derived.ChangeAlike
import Derived.Deep.Slices
import Derived.Lib.SmallJoins
import Derived.Test.YtgmjpnampjkfeaaPieL
set_option linter.unusedVariables false
set_option linter.unusedSimpArgs false
namespace Go.Proofs.Ytgmjpnampjkfeaa.Pie
open Go Go.RowKit Go.ChangeShapes Go.WideShapes Go.Proofs.YtgmjpnampjkfeaaW.PrintWords Go.Proofs.YtgmjpnampjkfeaaW.PrintLast Go.Proofs.YtgmjpnampjkfeaaW.PrintMore Base

/-- The cells of a slice that came in are these pieces. -/
def HasM (w : World) (A : Option Addr) (k : Nat) (F : Nat → Int × Int × Int × Int) : Prop :=
  ∀ j, j < k → ∃ g o, A = some ⟨g, o, none⟩ ∧ w.cell? ⟨g, o + j * 4, none⟩ = some (.int .u64 (F j).1) ∧ w.cell? ⟨g, o + j * 4 + 1, none⟩ = some (.int .i64 (F j).2.1) ∧
    w.cell? ⟨g, o + j * 4 + 2, none⟩ = some (.int .i64 (F j).2.2.1) ∧ w.cell? ⟨g, o + j * 4 + 3, none⟩ = some (.int .i64 (F j).2.2.2)
theorem hasM_below {w w' : World} {A : Option Addr} {k : Nat} {F : Nat → Int × Int × Int × Int} (h : HasM w A k F) (hb : Below w.heap.size w w') : HasM w' A k F := by
  intro j hj
  obtain ⟨g, o, e, h0, h1, h2, h3⟩ := h j hj
  exact ⟨g, o, e, pw_cell_below hb h0, pw_cell_below hb h1, pw_cell_below hb h2, pw_cell_below hb h3⟩
theorem open_pieces {H : Type} {enc : TypeId × Value → H} {W : World} {held : Bool} {r : Reach} {b0 : Nat} {v : Value} {d : DataW H} {p : List MemPlace}
    (hval : Value.okWide Try.prog W r b0 26 v) (h : DataW.Trod enc Try.prog W 0 (fun _ => true) held 26 v d p) :
    ∃ (A : Option Addr) (k c : Nat) (F : Nat → Int × Int × Int × Int), v = .slice A k c ∧ k ≤ c ∧ c ≤ maxLen ∧ HasM W A k F := by
  obtain ⟨a0, len, cap, rfl⟩ := okWide_slice Try.underlying26 hval
  obtain ⟨fuel, hf⟩ := h
  rcases Deep.open_slice Try.underlying26 hf with ⟨hcs, _⟩ | ⟨a, len', cap', m, n, D, Pl, hcs, _, hl, hm, hmm, _, hx⟩
  · simp [Value.cells] at hcs
    obtain ⟨rfl, rfl, rfl⟩ := hcs
    exact ⟨none, 0, 0, fun _ => (0, 0, 0, 0), rfl, Nat.le_refl _, by simp [maxLen], fun j hj => absurd hj (by omega)⟩
  · simp [Value.cells] at hcs
    obtain ⟨rfl, rfl, rfl⟩ := hcs
    have each : ∀ i, i < len → ∃ q : Int × Int × Int × Int, W.cell? (a.add (i * 4)) = some (.int .u64 q.1) ∧ W.cell? ((a.add (i * 4)).add 1) = some (.int .i64 q.2.1) ∧ W.cell? ((a.add (i * 4)).add 2) = some (.int .i64 q.2.2.1) ∧ W.cell? ((a.add (i * 4)).add 3) = some (.int .i64 q.2.2.2) := by
      intro i hi
      obtain ⟨cs', h1, h2⟩ := hx i (by rw [hmm]; simp; omega)
      rw [show Try.prog.cellsOf 31 = 4 by kernel_rfl] at h1
      obtain ⟨_, hlen, hcell⟩ := World.cells?_some h1
      match cs', hlen with
      | [v0, v1, v2, v3], _ =>
        obtain ⟨y0, y1, y2, y3, n', -, -, t0, t1, t2, t3⟩ := Joins.trod_struct4 Try.underlying31 h2
        have k0 : Try.prog.cellsOf 22 = 1 := by kernel_rfl
        have k1 : Try.prog.cellsOf 3 = 1 := by kernel_rfl
        simp [k0, k1] at t0 t1 t2 t3
        obtain ⟨q0, e0, -, -⟩ := DataW.trod_int Try.underlying22 t0
        obtain ⟨q1, e1, -, -⟩ := DataW.trod_int Try.underlying3 t1
        obtain ⟨q2, e2, -, -⟩ := DataW.trod_int Try.underlying3 t2
        obtain ⟨q3, e3, -, -⟩ := DataW.trod_int Try.underlying3 t3
        simp only [List.cons.injEq, and_true] at e0 e1 e2 e3
        subst e0; subst e1; subst e2; subst e3
        have c0 := hcell 0 (by omega)
        have c1 := hcell 1 (by omega)
        have c2 := hcell 2 (by omega)
        have c3 := hcell 3 (by omega)
        exact ⟨(q0, q1, q2, q3), by simpa [Addr.add] using c0, by simpa using c1, by simpa using c2, by simpa using c3⟩
    obtain ⟨F, hF⟩ := Deep.choose_lt each
    refine ⟨some a, len, cap, F, rfl, hl, hm, fun j hj => ?_⟩
    obtain ⟨x0, x1, x2, x3⟩ := hF j hj
    have hs : a.spot = none := by
      obtain ⟨z0, -, -, -⟩ := hF 0 (by omega)
      rw [show a.add (0 * 4) = a by simp [Addr.add]] at z0
      cases hsp : a.spot with
      | none => rfl
      | some s => unfold World.cell? at z0; rw [hsp] at z0; split at z0 <;> simp at z0
    obtain ⟨g, o, sp⟩ := a
    simp only at hs
    subst hs
    rw [Addr.add_mid] at x0 x1 x2 x3
    rw [Addr.add_mid] at x1 x2 x3
    exact ⟨g, o, rfl, x0, x1, x2, x3⟩
/-- What is counted at a piece. -/
def sm (s f a : Int) : Int := wrap64 (wrap64 (wrap64 (s * 31) + f) + a)
set_option maxRecDepth 100000 in
set_option maxHeartbeats 3200000 in
theorem take_any (g : Nat) (at_ n s e b f t a : Int) (w : World) (hg : w.heap[g]? = some (.cells #[.int .i64 at_, .int .i64 n, .int .i64 s, .int .i64 e] 36)) (hn0 : 0 ≤ n) (hn : n < 9223372036854775807) :
    Calls Try.prog 20 #[.pointer (some ⟨g, 0, none⟩), .agg #[.int .u64 b, .int .i64 f, .int .i64 t, .int .i64 a]] w fun x w' => x = .returned (.int .i64 (if n = at_ then e else 0)) ∧
      w'.heap[g]? = some (.cells #[.int .i64 at_, .int .i64 (n + 1), .int .i64 (sm s f a), .int .i64 e] 36) ∧ w.grownBy w' (some g) := by
  obtain ⟨r, hr⟩ : ∃ r, (if n = at_ then e else 0) = r := ⟨_, rfl⟩
  rw [hr]
  have HR := Lib.hid hr
  clear hr
  obtain ⟨w1, hw1, b1, f1, s1⟩ := made w #[.int .u64 b, .int .i64 f, .int .i64 t, .int .i64 a] 31
  have g1 := keep_row hg b1
  have B1 := Lib.hid b1
  have x1 := cell_row f1 (i := 1) (v := .int .i64 f) rfl
  have x3 := cell_row f1 (i := 3) (v := .int .i64 a) rfl
  have c2 := cell_row g1 (i := 2) (v := .int .i64 s) rfl
  have z2 := blk_frozen g1 2
  have G1 := Lib.hid g1
  clear g1 b1 f1 s1 hg
  go_enter Try.func20, Try.ntmps20
  go_wp2_with fail
  go_region
  obtain ⟨s', hs'⟩ : ∃ s', wrap64 (wrap64 (wrap64 (s * 31) + f) + a) = s' := ⟨_, rfl⟩
  rw [hs']
  obtain ⟨w2, hw2⟩ : ∃ w2, (w1.setCell ⟨g, 2, none⟩ (.int .i64 s')).drew = w2 := ⟨_, rfl⟩
  rw [hw2]
  have g2 : w2.heap[g]? = some (.cells #[.int .i64 at_, .int .i64 n, .int .i64 s', .int .i64 e] 36) := by rw [← hw2]; exact blk_put G1.out 2 _ rfl
  obtain ⟨w3, hw3⟩ : ∃ w3, w2.setCell ⟨g, 1, none⟩ (.int .i64 (n + 1)) = w3 := ⟨_, rfl⟩
  have g3 : w3.heap[g]? = some (.cells #[.int .i64 at_, .int .i64 (n + 1), .int .i64 s', .int .i64 e] 36) := by rw [← hw3]; exact blk_put g2 1 _ rfl
  have B3 := Lib.hid (show w.grownBy w3 (some g) by
    rw [← hw3, ← hw2]
    have b := B1.out
    refine ⟨b.os, b.tape, b.output, by rw [World.size_setCell]; show _ ≤ (w1.setCell _ _).heap.size; rw [World.size_setCell]; exact b.size, fun k hk hne => ?_⟩
    have hkg : k ≠ g := fun h => hne (by rw [h])
    rw [Below.heap_setCell _ _ _ _ (by exact hkg)]
    show (w1.setCell _ _).heap[k]? = _
    rw [Below.heap_setCell _ _ _ _ (by exact hkg)]
    exact b.block k hk)
  have HS := Lib.hid (show sm s f a = s' from hs')
  have G3 := Lib.hid g3
  have c1 := cell_row g2 (i := 1) (v := .int .i64 n) rfl
  have z1 := blk_frozen g2 1
  have d0 := cell_row g3 (i := 0) (v := .int .i64 at_) rfl
  have d1 := cell_row g3 (i := 1) (v := .int .i64 (n + 1)) rfl
  have d3 := cell_row g3 (i := 3) (v := .int .i64 e) rfl
  clear hs' hw2 g2 g3 x1 x3 c2 z2 hw1
  by_cases h : n = at_
  · have hr : r = e := by rw [← HR.out, if_pos h]
    subst h
    subst hr
    have hd : (n == n) = true := by simp
    go_wp2_with fail
    go_quiet (fail)
    go_wp2_with fail
    go_ret
    exact ⟨rfl, by rw [HS.out]; exact G3.out, grown_below B3.out (below_dn (Below.refl _ _) _)⟩
  · have hr : r = 0 := by rw [← HR.out, if_neg h]
    subst hr
    have hd : (n == at_) = false := by simp [h]
    clear h
    go_wp2_with fail
    go_quiet (fail)
    go_wp2_with fail
    go_ret
    exact ⟨rfl, by rw [HS.out]; exact G3.out, grown_below B3.out (below_dn (Below.refl _ _) _)⟩
end Go.Proofs.Ytgmjpnampjkfeaa.Pie
