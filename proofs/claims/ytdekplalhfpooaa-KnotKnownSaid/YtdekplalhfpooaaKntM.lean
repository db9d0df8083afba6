/- Knots: blocks and lists of numbers of a call's own, each in a block of its own: what stays when one of them is written. -/
import Derived.BigQuiet
import Derived.Test.YtdekplalhfpooaaInv
import Derived.Test.YtdekplalhfpooaaKntK
set_option linter.unusedVariables false
set_option linter.unusedSimpArgs false
namespace Go.Proofs.Ytdekplalhfpooaa.Knt
open Go Go.RowKit Go.Proofs.YtdekplalhfpooaaW.PrintWords Go.Proofs.YtdekplalhfpooaaW.PrintLast Go.Proofs.YtdekplalhfpooaaW.PrintMore Base Odr Hlp Nod Go.Proofs.Ytdekplalhfpooaa.Inv

abbrev Rows := Nat → Option (Nat × Obj)
abbrev Its := Nat → Option (Option Addr × Nat × List Int)
structure Hold (w : World) (R : Rows) (D : Its) (W : World) : Prop where
  bel : Below w.heap.size w W
  row : ∀ i g o, R i = some (g, o) → W.heap[g]? = some o ∧ w.heap.size ≤ g
  uni : ∀ i j g o g' o', i ≠ j → R i = some (g, o) → R j = some (g', o') → g ≠ g'
  its : ∀ i A n xs, D i = some (A, n, xs) → Mine W w.heap.size A n xs
  far : ∀ i j A n xs A' n' xs', i ≠ j → D i = some (A, n, xs) → D j = some (A', n', xs') → Far A n A' n'
  off : ∀ i j g o A n xs, R i = some (g, o) → D j = some (A, n, xs) → 0 < n → ∀ a, A = some a → a.block ≠ g
theorem Hold.start (w : World) : Hold w (fun _ => none) (fun _ => none) w :=
  by refine ⟨Below.refl _ _, ?_, ?_, ?_, ?_, ?_⟩ <;> (intros; simp_all)
theorem Hold.below {w : World} {R : Rows} {D : Its} {W W' : World} (h : Hold w R D W) (hb : Below W.heap.size W W') : Hold w R D W' :=
  ⟨below_then h.bel h.bel.size hb, fun i g o hi => ⟨keep_row (h.row i g o hi).1 hb, (h.row i g o hi).2⟩, h.uni, fun i A n xs hi => mine_below (h.its i A n xs hi) hb, h.far, h.off⟩
theorem Hold.drew {w : World} {R : Rows} {D : Its} {W : World} (h : Hold w R D W) : Hold w R D W.drew := h.below (below_drew (Below.refl _ _))
theorem Hold.dn {w : World} {R : Rows} {D : Its} {W : World} (h : Hold w R D W) (n : Nat) : Hold w R D (W.drewN n) := h.below (below_dn (Below.refl _ _) n)
theorem far_symm {A A' : Option Addr} {n n' : Nat} (h : Far A n A' n') : Far A' n' A n := fun h1 h2 a a' e e' he => h h2 h1 a' a e' e he.symm
/-- A block that is new. -/
theorem Hold.box {w : World} {R : Rows} {D : Its} {W W' : World} (h : Hold w R D W) (i : Nat) {g : Nat} {o : Obj} (hb : Below W.heap.size W W') (hg : W'.heap[g]? = some o) (hge : W.heap.size ≤ g) : Hold w (upd R i (some (g, o))) D W' := by
  have h2 := h.below hb
  have lt : ∀ k g' o', R k = some (g', o') → g' < W.heap.size := fun k g' o' hk => (Array.getElem?_eq_some_iff.1 (h.row k g' o' hk).1).1
  refine ⟨h2.bel, fun k g' o' hk => ?_, fun j k g1 o1 g2 o2 hjk hj hk => ?_, h2.its, h2.far, fun k j g' o' A n xs hk hj hn a ha => ?_⟩
  · by_cases hki : k = i
    · subst hki; rw [upd_same] at hk; injection hk with hk; injection hk with h3 h4; subst h3; subst h4
      exact ⟨hg, Nat.le_trans h.bel.size hge⟩
    · rw [upd_ne _ _ hki] at hk; exact h2.row k g' o' hk
  · by_cases hji : j = i
    · subst hji
      rw [upd_same] at hj; injection hj with hj; injection hj with h3 h4; subst h3
      rw [upd_ne _ _ (Ne.symm hjk)] at hk
      have := lt k g2 o2 hk; omega
    · rw [upd_ne _ _ hji] at hj
      by_cases hki : k = i
      · subst hki; rw [upd_same] at hk; injection hk with hk; injection hk with h3 h4; subst h3
        have := lt j g1 o1 hj; omega
      · rw [upd_ne _ _ hki] at hk; exact h.uni j k g1 o1 g2 o2 hjk hj hk
  · by_cases hki : k = i
    · subst hki; rw [upd_same] at hk; injection hk with hk; injection hk with h3 h4; subst h3
      obtain ⟨g1, lo, pre, post, e, _, _, hh⟩ := (h.its j A n xs hj).2.2 hn
      rw [ha] at e; injection e with e; subst e
      have := (Array.getElem?_eq_some_iff.1 hh).1
      simp only; omega
    · rw [upd_ne _ _ hki] at hk; exact h.off k j g' o' A n xs hk hj hn a ha
/-- A list that is new. -/
theorem Hold.item {w : World} {R : Rows} {D : Its} {W W' : World} (h : Hold w R D W) (i : Nat) {A : Option Addr} {n : Nat} {xs : List Int} {base : Nat} (hb : Below W.heap.size W W') (hm : Mine W' base A n xs) (hge : W.heap.size ≤ base) : Hold w R (upd D i (some (A, n, xs))) W' := by
  have h2 := h.below hb
  refine ⟨h2.bel, h2.row, h2.uni, fun k A1 n1 xs1 hk => ?_, fun j k A1 n1 xs1 A2 n2 xs2 hjk hj hk => ?_, fun k j g o A1 n1 xs1 hk hj hn a ha => ?_⟩
  · by_cases hki : k = i
    · subst hki; rw [upd_same] at hk; injection hk with hk; injection hk with h3 h4; injection h4 with h4 h5; subst h3; subst h4; subst h5
      exact mine_weaken hm (Nat.le_trans h.bel.size hge)
    · rw [upd_ne _ _ hki] at hk; exact h2.its k A1 n1 xs1 hk
  · by_cases hji : j = i
    · subst hji
      rw [upd_same] at hj; injection hj with hj; injection hj with h3 h4; injection h4 with h4 h5; subst h3; subst h4; subst h5
      rw [upd_ne _ _ (Ne.symm hjk)] at hk
      exact far_symm (far_mine (h.its k A2 n2 xs2 hk) hm hge)
    · rw [upd_ne _ _ hji] at hj
      by_cases hki : k = i
      · subst hki
        rw [upd_same] at hk; injection hk with hk; injection hk with h3 h4; injection h4 with h4 h5; subst h3; subst h4; subst h5
        exact far_mine (h.its j A1 n1 xs1 hj) hm hge
      · rw [upd_ne _ _ hki] at hk; exact h.far j k A1 n1 xs1 A2 n2 xs2 hjk hj hk
  · by_cases hji : j = i
    · subst hji
      rw [upd_same] at hj; injection hj with hj; injection hj with h3 h4; injection h4 with h4 h5; subst h3; subst h4; subst h5
      obtain ⟨g1, lo, pre, post, e, hg1, _, hh⟩ := hm.2.2 hn
      rw [ha] at e; injection e with e; subst e
      have := (Array.getElem?_eq_some_iff.1 (h.row k g o hk).1).1
      simp only; omega
    · rw [upd_ne _ _ hji] at hj; exact h.off k j g o A1 n1 xs1 hk hj hn a ha
/-- A list that is as new as the last one, and apart from it. -/
theorem Hold.item2 {w : World} {R : Rows} {D : Its} {W W' : World} (h : Hold w R D W) (i j : Nat) {A A' : Option Addr} {n n' : Nat} {xs ys : List Int} {base : Nat} (hb : Below W.heap.size W W') (hm : Mine W' base A n xs) (hm' : Mine W' base A' n' ys) (hf : Far A n A' n') (hge : W.heap.size ≤ base) : Hold w R (upd (upd D i (some (A, n, xs))) j (some (A', n', ys))) W' := by
  have h1 := h.item i hb hm hge
  have h2 := h.item j hb hm' hge
  have inj : ∀ {x : Option (Option Addr × Nat × List Int)} {A1 A2 : Option Addr} {n1 n2 : Nat} {x1 x2 : List Int}, some (A1, n1, x1) = some (A2, n2, x2) → A1 = A2 ∧ n1 = n2 ∧ x1 = x2 := by
    intro _ A1 A2 n1 n2 x1 x2 he; injection he with he; injection he with h3 h4; injection h4 with h4 h5; exact ⟨h3, h4, h5⟩
  refine ⟨h1.bel, h1.row, h1.uni, fun k A1 n1 xs1 hk => ?_, fun p k A1 n1 xs1 A2 n2 xs2 hpk hp hk => ?_, fun k p g o A1 n1 xs1 hk hp hn a ha => ?_⟩
  · by_cases hkj : k = j
    · subst hkj; exact h2.its k A1 n1 xs1 (by rw [upd_same] at hk ⊢; exact hk)
    · rw [upd_ne _ _ hkj] at hk; exact h1.its k A1 n1 xs1 hk
  · by_cases hpj : p = j
    · subst hpj
      rw [upd_same] at hp; obtain ⟨rfl, rfl, rfl⟩ := inj (x := none) hp
      rw [upd_ne _ _ (Ne.symm hpk)] at hk
      by_cases hki : k = i
      · subst hki; rw [upd_same] at hk; obtain ⟨rfl, rfl, rfl⟩ := inj (x := none) hk
        exact far_symm hf
      · rw [upd_ne _ _ hki] at hk
        exact far_symm (far_mine (h.its k A2 n2 xs2 hk) hm' hge)
    · rw [upd_ne _ _ hpj] at hp
      by_cases hkj : k = j
      · subst hkj; rw [upd_same] at hk; obtain ⟨rfl, rfl, rfl⟩ := inj (x := none) hk
        by_cases hpi : p = i
        · subst hpi; rw [upd_same] at hp; obtain ⟨rfl, rfl, rfl⟩ := inj (x := none) hp
          exact hf
        · rw [upd_ne _ _ hpi] at hp
          exact far_mine (h.its p A1 n1 xs1 hp) hm' hge
      · rw [upd_ne _ _ hkj] at hk; exact h1.far p k A1 n1 xs1 A2 n2 xs2 hpk hp hk
  · by_cases hpj : p = j
    · subst hpj; rw [upd_same] at hp; exact h2.off k p g o A1 n1 xs1 hk (by rw [upd_same]; exact hp) hn a ha
    · rw [upd_ne _ _ hpj] at hp; exact h1.off k p g o A1 n1 xs1 hk hp hn a ha
theorem Hold.node {w : World} {R : Rows} {D : Its} {W W' : World} (h : Hold w R D W) (i j : Nat) {A A' : Option Addr} {c c' n n' : Nat} {xs ys : List Int} (hb : Below W.heap.size W W') (ho : Own2 W' W.heap.size A c A' c' n n' xs ys) : Hold w R (upd (upd D i (some (A, n, xs))) j (some (A', n', ys))) W' :=
  h.item2 i j hb ho.k ho.v ho.far (Nat.le_refl _)
/-- What is forgotten. -/
theorem Hold.sub {w : World} {R R' : Rows} {D D' : Its} {W : World} (h : Hold w R D W) (hR : ∀ i x, R' i = some x → R i = some x) (hD : ∀ i x, D' i = some x → D i = some x) : Hold w R' D' W :=
  ⟨h.bel, fun i g o hi => h.row i g o (hR _ _ hi), fun i j g o g' o' hij hi hj => h.uni i j g o g' o' hij (hR _ _ hi) (hR _ _ hj), fun i A n xs hi => h.its i A n xs (hD _ _ hi), fun i j A n xs A' n' xs' hij hi hj => h.far i j A n xs A' n' xs' hij (hD _ _ hi) (hD _ _ hj), fun i j g o A n xs hi hj => h.off i j g o A n xs (hR _ _ hi) (hD _ _ hj)⟩
theorem Hold.dropI {w : World} {R : Rows} {D : Its} {W : World} (h : Hold w R D W) (i : Nat) : Hold w R (upd D i none) W := by
  refine h.sub (fun _ _ h => h) fun k x hk => ?_
  by_cases hki : k = i
  · subst hki; rw [upd_same] at hk; cases hk
  · rw [upd_ne _ _ hki] at hk; exact hk
theorem Hold.dropR {w : World} {R : Rows} {D : Its} {W : World} (h : Hold w R D W) (i : Nat) : Hold w (upd R i none) D W := by
  refine h.sub (fun k x hk => ?_) (fun _ _ h => h)
  by_cases hki : k = i
  · subst hki; rw [upd_same] at hk; cases hk
  · rw [upd_ne _ _ hki] at hk; exact hk
/-- A block of one's own is written. -/
theorem Hold.put {w : World} {R : Rows} {D : Its} {W W' : World} (h : Hold w R D W) (i : Nat) {g : Nat} {o o' : Obj} (hi : R i = some (g, o)) (hos : W'.os = W.os) (htp : W'.tape = W.tape) (hout : W'.output = W.output) (hsz : W'.heap.size = W.heap.size) (hoth : ∀ k, k ≠ g → W'.heap[k]? = W.heap[k]?) (hg : W'.heap[g]? = some o') : Hold w (upd R i (some (g, o'))) D W' := by
  have hge := (h.row i g o hi).2
  refine ⟨⟨hos.trans h.bel.os, htp.trans h.bel.tape, hout.trans h.bel.output, by rw [hsz]; exact h.bel.size, fun k hk => (hoth k (by omega)).trans (h.bel.block k hk)⟩, fun k g' o1 hk => ?_, fun j k g1 o1 g2 o2 hjk hj hk => ?_, fun k A n xs hk => ?_, h.far, fun k j g' o1 A n xs hk hj hn a ha => ?_⟩
  · by_cases hki : k = i
    · subst hki; rw [upd_same] at hk; injection hk with hk; injection hk with h3 h4; subst h3; subst h4
      exact ⟨hg, hge⟩
    · rw [upd_ne _ _ hki] at hk
      have h1 := h.row k g' o1 hk
      exact ⟨by rw [hoth g' (h.uni k i g' o1 g o hki hk hi)]; exact h1.1, h1.2⟩
  · by_cases hji : j = i
    · subst hji
      rw [upd_same] at hj; injection hj with hj; injection hj with h3 h4; subst h3
      rw [upd_ne _ _ (Ne.symm hjk)] at hk
      exact h.uni j k g o g2 o2 hjk hi hk
    · rw [upd_ne _ _ hji] at hj
      by_cases hki : k = i
      · subst hki; rw [upd_same] at hk; injection hk with hk; injection hk with h3 h4; subst h3
        exact h.uni j k g1 o1 g o hjk hj hi
      · rw [upd_ne _ _ hki] at hk; exact h.uni j k g1 o1 g2 o2 hjk hj hk
  · have h1 := h.its k A n xs hk
    refine ⟨h1.1, h1.2.1, fun hn => ?_⟩
    obtain ⟨g1, lo, pre, post, e, hg1, hl, hh⟩ := h1.2.2 hn
    exact ⟨g1, lo, pre, post, e, hg1, hl, by rw [hoth g1 (h.off i k g o A n xs hi hk hn _ e)]; exact hh⟩
  · by_cases hki : k = i
    · subst hki; rw [upd_same] at hk; injection hk with hk; injection hk with h3 h4; subst h3
      exact h.off k j g o A n xs hi hj hn a ha
    · rw [upd_ne _ _ hki] at hk; exact h.off k j g' o1 A n xs hk hj hn a ha
theorem Hold.setRow {w : World} {R : Rows} {D : Its} {W : World} (h : Hold w R D W) (i : Nat) {g : Nat} {cs cs' : Array Value} {t : TypeId} {fr : Nat × Nat} (hi : R i = some (g, .cells cs t fr)) : Hold w (upd R i (some (g, .cells cs' t fr))) D (W.setRow g cs') :=
  h.put i hi rfl rfl rfl (setRow_size _ _ _) (fun k hk => setRow_other _ _ _ _ hk) (setRow_heap _ _ _ _ _ _ (h.row i _ _ hi).1)
theorem Hold.setCell {w : World} {R : Rows} {D : Its} {W : World} (h : Hold w R D W) (i : Nat) {g : Nat} {cs cs' : Array Value} {t : TypeId} (j : Nat) (u : Value) (hi : R i = some (g, .cells cs t (0, 0))) (e : cs.setIfInBounds j u = cs') : Hold w (upd R i (some (g, .cells cs' t (0, 0)))) D (W.setCell ⟨g, j, none⟩ u) :=
  h.put i hi rfl rfl rfl (by simp [World.setCell]) (fun k hk => Below.heap_setCell W ⟨g, j, none⟩ u k hk) (blk_put (h.row i _ _ hi).1 j u e)
/-- A number of a list of one's own is written. -/
theorem Hold.poke {w : World} {R : Rows} {D : Its} {W : World} (h : Hold w R D W) (i : Nat) {a : Addr} {n j : Nat} {xs : List Int} (x : Int) (hi : D i = some (some a, n, xs)) (hj : j < n) : Hold w R (upd D i (some (some a, n, xs.set j x))) (W.setCell (a.add j) (.int .u64 x)) ∧ W.frozen? (a.add j) = false ∧ (∃ y, W.cell? (a.add j) = some (.int .u64 y)) := by
  have hm := h.its i _ n xs hi
  obtain ⟨g, lo, pre, post, e, hg, hl, hh⟩ := hm.2.2 (by omega)
  injection e with e
  have ha : a.add j = ⟨g, lo + j, none⟩ := by rw [e]; unfold Addr.add; split <;> simp_all
  have hx : j < xs.length := by rw [hm.1]; exact hj
  have hrow : (W.setCell (a.add j) (.int .u64 x)).heap[g]? = some (.cells (pre ++ nums .u64 (xs.set j x) ++ post).toArray 25 (0, 0)) := by
    rw [ha]
    refine blk_put hh (lo + j) _ ?_
    rw [List.setIfInBounds_toArray]
    congr 1
    rw [List.append_assoc, List.append_assoc, List.set_append_right _ _ (by omega), hl, Nat.add_sub_cancel_left, List.set_append_left _ _ (by unfold nums; rw [List.length_map]; exact hx)]
    congr 2
    unfold nums
    rw [List.map_set]
  have hoth : ∀ k, k ≠ g → (W.setCell (a.add j) (.int .u64 x)).heap[k]? = W.heap[k]? := fun k hk => by rw [ha]; exact Below.heap_setCell W ⟨g, lo + j, none⟩ _ k hk
  refine ⟨⟨⟨h.bel.os, h.bel.tape, h.bel.output, by simpa [World.setCell] using h.bel.size, fun k hk => (hoth k (by omega)).trans (h.bel.block k hk)⟩, fun k g' o' hk => ?_, h.uni, fun k A1 n1 xs1 hk => ?_, fun p k A1 n1 xs1 A2 n2 xs2 hpk hp hk => ?_, fun k p g' o' A1 n1 xs1 hk hp hn b hb => ?_⟩, ?_, ?_⟩
  · have h1 := h.row k g' o' hk
    refine ⟨?_, h1.2⟩
    rw [hoth g' (fun he => ?_)]
    · exact h1.1
    · exact h.off k i g' o' _ n xs hk hi (by omega) a rfl (by rw [e]; exact he.symm)
  · by_cases hki : k = i
    · subst hki; rw [upd_same] at hk; injection hk with hk; injection hk with h3 h4; injection h4 with h4 h5; subst h3; subst h4; subst h5
      exact ⟨by rw [List.length_set]; exact hm.1, hm.2.1, fun _ => ⟨g, lo, pre, post, by rw [e], hg, hl, hrow⟩⟩
    · rw [upd_ne _ _ hki] at hk
      have h1 := h.its k A1 n1 xs1 hk
      refine ⟨h1.1, h1.2.1, fun hn => ?_⟩
      obtain ⟨g1, lo1, pre1, post1, e1, hg1, hl1, hh1⟩ := h1.2.2 hn
      refine ⟨g1, lo1, pre1, post1, e1, hg1, hl1, ?_⟩
      rw [hoth g1 (fun he => ?_)]
      · exact hh1
      · exact h.far k i A1 n1 xs1 (some a) n xs hki hk hi hn (by omega) _ a e1 rfl (by rw [e]; exact he)
  · have key : ∀ q A n1 (ys : List Int), upd D i (some (some a, n, xs.set j x)) q = some (A, n1, ys) → ∃ zs, D q = some (A, n1, zs) := by
      intro q A n1 ys hq
      by_cases hqi : q = i
      · subst hqi; rw [upd_same] at hq; injection hq with hq; injection hq with h3 h4; injection h4 with h4 h5; subst h3; subst h4
        exact ⟨xs, hi⟩
      · rw [upd_ne _ _ hqi] at hq; exact ⟨ys, hq⟩
    obtain ⟨z1, hz1⟩ := key p A1 n1 xs1 hp
    obtain ⟨z2, hz2⟩ := key k A2 n2 xs2 hk
    exact h.far p k A1 n1 z1 A2 n2 z2 hpk hz1 hz2
  · by_cases hpi : p = i
    · subst hpi; rw [upd_same] at hp; injection hp with hp; injection hp with h3 h4; injection h4 with h4 h5; subst h3; subst h4
      exact h.off k p g' o' (some a) n xs hk hi hn b hb
    · rw [upd_ne _ _ hpi] at hp; exact h.off k p g' o' A1 n1 xs1 hk hp hn b hb
  · rw [ha]; exact blk_frozen hh _
  · obtain ⟨ad, he, hc⟩ := cell_at (mine_reads hm) j hj
    injection he with he
    exact ⟨_, by rw [he]; exact hc⟩
theorem Hold.rd {w : World} {R : Rows} {D : Its} {W : World} (h : Hold w R D W) (i : Nat) {A : Option Addr} {n : Nat} {xs : List Int} (hi : D i = some (A, n, xs)) : ReadsInt W .u64 A n xs := mine_reads (h.its i A n xs hi)
end Go.Proofs.Ytdekplalhfpooaa.Knt
