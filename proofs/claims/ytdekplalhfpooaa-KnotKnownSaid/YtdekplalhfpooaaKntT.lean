/- Knots: what stays, more of it: two nodes, boxes; a number behind a full row. -/
import Derived.BigQuiet
import Derived.Test.YtdekplalhfpooaaKntS
set_option linter.unusedVariables false
set_option linter.unusedSimpArgs false
namespace Go.Proofs.Ytdekplalhfpooaa.Knt
open Go Go.RowKit Go.Proofs.YtdekplalhfpooaaW.PrintWords Go.Proofs.YtdekplalhfpooaaW.PrintLast Go.Proofs.YtdekplalhfpooaaW.PrintMore Base Odr Hlp Nod Go.Proofs.Ytdekplalhfpooaa.Inv

theorem some3 {A1 A2 : Option Addr} {n1 n2 : Nat} {x1 x2 : List Int} (he : some (A1, n1, x1) = some (A2, n2, x2)) : A1 = A2 ∧ n1 = n2 ∧ x1 = x2 := by
  injection he with he; injection he with h3 h4; injection h4 with h4 h5; exact ⟨h3, h4, h5⟩
theorem Hold.addF {w : World} {R : Rows} {D : Its} {W : World} (h : Hold w R D W) (i : Nat) {A : Option Addr} {n : Nat} {xs : List Int} (hm : Mine W w.heap.size A n xs) (hf : ∀ k B p zs, k ≠ i → D k = some (B, p, zs) → Far B p A n) (ho : ∀ k g o, R k = some (g, o) → 0 < n → ∀ a, A = some a → a.block ≠ g) : Hold w R (upd D i (some (A, n, xs))) W := by
  refine ⟨h.bel, h.row, h.uni, fun k A1 n1 xs1 hk => ?_, fun j k A1 n1 xs1 A2 n2 xs2 hjk hj hk => ?_, fun k j g o A1 n1 xs1 hk hj hn a ha => ?_⟩
  · by_cases hki : k = i
    · subst hki; rw [upd_same] at hk; obtain ⟨rfl, rfl, rfl⟩ := some3 hk; exact hm
    · rw [upd_ne _ _ hki] at hk; exact h.its k A1 n1 xs1 hk
  · by_cases hji : j = i
    · subst hji
      rw [upd_same] at hj; obtain ⟨rfl, rfl, rfl⟩ := some3 hj
      rw [upd_ne _ _ (Ne.symm hjk)] at hk
      exact far_symm (hf k A2 n2 xs2 (Ne.symm hjk) hk)
    · rw [upd_ne _ _ hji] at hj
      by_cases hki : k = i
      · subst hki; rw [upd_same] at hk; obtain ⟨rfl, rfl, rfl⟩ := some3 hk
        exact hf j A1 n1 xs1 hji hj
      · rw [upd_ne _ _ hki] at hk; exact h.far j k A1 n1 xs1 A2 n2 xs2 hjk hj hk
  · by_cases hji : j = i
    · subst hji; rw [upd_same] at hj; obtain ⟨rfl, rfl, rfl⟩ := some3 hj
      exact ho k g o hk hn a ha
    · rw [upd_ne _ _ hji] at hj; exact h.off k j g o A1 n1 xs1 hk hj hn a ha
/-- Two nodes that are new. -/
theorem Hold.nodes {w : World} {R : Rows} {D : Its} {W W' : World} (h : Hold w R D W) (i j k l : Nat) (hki : k ≠ i) (hkj : k ≠ j) (hli : l ≠ i) (hlj : l ≠ j) (hlk : l ≠ k) {A A' B B' : Option Addr} {c c' e e' n n' m m' : Nat} {xs ys zs us : List Int} (hb : Below W.heap.size W W') (o1 : Own2 W' W.heap.size A c A' c' n n' xs ys) (o2 : Own2 W' W.heap.size B e B' e' m m' zs us)
    (f1 : Far A n B m) (f2 : Far A n B' m') (f3 : Far A' n' B m) (f4 : Far A' n' B' m') : Hold w R (upd (upd (upd (upd D i (some (A, n, xs))) j (some (A', n', ys))) k (some (B, m, zs))) l (some (B', m', us))) W' := by
  have h1 := h.node i j hb o1
  have hoff : ∀ {X : Option Addr} {p : Nat} {vs : List Int}, Mine W' W.heap.size X p vs → ∀ q g o, R q = some (g, o) → 0 < p → ∀ a, X = some a → a.block ≠ g := by
    intro X p vs hm q g o hq hp a ha
    obtain ⟨g1, lo, pre, post, e1, hg1, _, hh⟩ := hm.2.2 hp
    rw [ha] at e1; injection e1 with e1; subst e1
    have := (Array.getElem?_eq_some_iff.1 (h.row q g o hq).1).1
    simp only; omega
  have h2 := h1.addF k (mine_weaken o2.k h.bel.size) (fun q X p vs hqk hq => by
    by_cases hqj : q = j
    · subst hqj; rw [upd_same] at hq; obtain ⟨rfl, rfl, rfl⟩ := some3 hq; exact f3
    · rw [upd_ne _ _ hqj] at hq
      by_cases hqi : q = i
      · subst hqi; rw [upd_same] at hq; obtain ⟨rfl, rfl, rfl⟩ := some3 hq; exact f1
      · rw [upd_ne _ _ hqi] at hq; exact far_mine (h.its q X p vs hq) o2.k (Nat.le_refl _)) (hoff o2.k)
  exact h2.addF l (mine_weaken o2.v h.bel.size) (fun q X p vs hql hq => by
    by_cases hqk : q = k
    · subst hqk; rw [upd_same] at hq; obtain ⟨rfl, rfl, rfl⟩ := some3 hq; exact o2.far
    · rw [upd_ne _ _ hqk] at hq
      by_cases hqj : q = j
      · subst hqj; rw [upd_same] at hq; obtain ⟨rfl, rfl, rfl⟩ := some3 hq; exact f4
      · rw [upd_ne _ _ hqj] at hq
        by_cases hqi : q = i
        · subst hqi; rw [upd_same] at hq; obtain ⟨rfl, rfl, rfl⟩ := some3 hq; exact f2
        · rw [upd_ne _ _ hqi] at hq; exact far_mine (h.its q X p vs hq) o2.v (Nat.le_refl _)) (hoff o2.v)
/-- One box, made and filled. -/
theorem one_row {w a b : World} {cs : Array Value} (ha : w.alloc (.cells #[.bool false, .slice none 0 0, .slice none 0 0] 24) = a) (hb : a.setRow w.heap.size cs = b) :
    Below w.heap.size w b ∧ a.heap[w.heap.size]? = some (.cells #[.bool false, .slice none 0 0, .slice none 0 0] 24) ∧ b.heap[w.heap.size]? = some (.cells cs 24) := by
  have fa : a.heap[w.heap.size]? = some (.cells #[.bool false, .slice none 0 0, .slice none 0 0] 24) := by rw [← ha]; exact heap_alloc_new _ _
  have ba : Below w.heap.size w a := by rw [← ha]; exact (Below.refl _ _).alloc (Nat.le_refl _) _
  refine ⟨?_, fa, ?_⟩
  · rw [← hb]; exact below_setRow ba (Nat.le_refl _) _
  · rw [← hb]; exact setRow_heap _ _ _ _ _ _ fa
/-- Two boxes, made and filled. -/
theorem Hold.two {w : World} {R : Rows} {D : Its} {W a b c d : World} (h : Hold w R D W) (i j : Nat) (hij : j ≠ i) {cs ds : Array Value} (ha : W.alloc (.cells #[.bool false, .slice none 0 0, .slice none 0 0] 24) = a) (hb : a.alloc (.cells #[.bool false, .slice none 0 0, .slice none 0 0] 24) = b) (hc : b.setRow W.heap.size cs = c) (hd : c.setRow a.heap.size ds = d) :
    Hold w (upd (upd R i (some (W.heap.size, .cells cs 24))) j (some (a.heap.size, .cells ds 24))) D d := by
  obtain ⟨h1, h2, h3, h4, h5⟩ := two_rows ha hb hc hd
  have sa : a.heap.size = W.heap.size + 1 := by rw [← ha]; exact World.size_alloc _ _
  have lt : ∀ k g' o', R k = some (g', o') → g' < W.heap.size := fun k g' o' hk => (Array.getElem?_eq_some_iff.1 (h.row k g' o' hk).1).1
  have g1 := h.box i h1 h4 (Nat.le_refl _)
  refine ⟨g1.bel, fun k g o hk => ?_, fun p k g o g' o' hpk hp hk => ?_, g1.its, g1.far, fun k p g o A n xs hk hp hn x hx => ?_⟩
  · by_cases hkj : k = j
    · subst hkj; rw [upd_same] at hk; injection hk with hk; injection hk with e1 e2; subst e1; subst e2
      exact ⟨h5, by have := h.bel.size; omega⟩
    · rw [upd_ne _ _ hkj] at hk; exact g1.row k g o hk
  · have key : ∀ k g o, k ≠ j → upd R i (some (W.heap.size, .cells cs 24)) k = some (g, o) → g < a.heap.size := by
      intro k g o _ hk
      by_cases hki : k = i
      · subst hki; rw [upd_same] at hk; injection hk with hk; injection hk with e1 e2; omega
      · rw [upd_ne _ _ hki] at hk; have := lt k g o hk; omega
    by_cases hpj : p = j
    · subst hpj
      rw [upd_same] at hp; injection hp with hp; injection hp with e1 e2
      rw [upd_ne _ _ (Ne.symm hpk)] at hk
      have := key k g' o' (Ne.symm hpk) hk; omega
    · rw [upd_ne _ _ hpj] at hp
      by_cases hkj : k = j
      · subst hkj; rw [upd_same] at hk; injection hk with hk; injection hk with e1 e2
        have := key p g o hpj hp; omega
      · rw [upd_ne _ _ hkj] at hk; exact g1.uni p k g o g' o' hpk hp hk
  · by_cases hkj : k = j
    · subst hkj; rw [upd_same] at hk; injection hk with hk; injection hk with e1 e2; subst e1
      obtain ⟨g1', lo, pre, post, e, _, _, hh⟩ := (h.its p A n xs hp).2.2 hn
      rw [hx] at e; injection e with e; subst e
      have := (Array.getElem?_eq_some_iff.1 hh).1
      simp only; omega
    · rw [upd_ne _ _ hkj] at hk; exact g1.off k p g o A n xs hk hp hn x hx
theorem Hold.one {w : World} {R : Rows} {D : Its} {W a b : World} (h : Hold w R D W) (i : Nat) {cs : Array Value} (ha : W.alloc (.cells #[.bool false, .slice none 0 0, .slice none 0 0] 24) = a) (hb : a.setRow W.heap.size cs = b) : Hold w (upd R i (some (W.heap.size, .cells cs 24))) D b :=
  h.box i (one_row ha hb).1 (one_row ha hb).2.2 (Nat.le_refl _)
/-- A number behind a row that has no room: a new row. -/
theorem app_full {W : World} {n g : Nat} {A : Option Addr} {xs : List Int} {y : Int} (HR : ReadsInt W .u64 A n xs) (hg : W.heap[g]? = some (.cells #[.int .u64 y] 25)) (hA : A = none → n = 0) (hs : (n + 1) * 8 ≤ 140737488355328) :
    ∃ A2 c2 W', (∀ ty, (Builtin.append_ #[22, 22] ty #[.slice A n n, .slice (some ⟨g, 0, none⟩) 1 1]).run Try.prog W = .ok (.slice A2 (n + 1) c2) W') ∧ W'.ownsRow W.heap.size 25 1 (.slice A2 (n + 1) c2) (n + 1) (nums .u64 (xs ++ [y])) ∧ Below W.heap.size W W' := by
  obtain ⟨i, hi, hz0, hz1, hz2⟩ := info64'
  cases A with
  | none =>
    obtain rfl := hA rfl
    obtain rfl : xs = [] := List.eq_nil_of_length_eq_zero HR.1
    obtain ⟨A2, c2, W3, r3, o3, g3, -⟩ := app_row (W := W) (B := W.heap.size) (v := .slice none 0 0) (n := 0) (xs := []) (c := 1) (own_nil _ _ _ _) rfl (reads1 hg) (by omega) (Nat.le_refl _) (fun h => by cases h)
    exact ⟨A2, c2, W3, r3, o3, pw_below_grown (Below.refl _ _) _ (Nat.le_refl _) g3 (fun k hk => by simp [Value.ownBlock] at hk)⟩
  | some ad =>
    obtain ⟨v2, W3, r3, o3, g3⟩ := run_append_arg_grows (P := Try.prog) W 22 0 25 i (.int .u64 0) 1 8 Try.underlying22 hi hz0 hz1 hz2 rfl (by omega) ad n n (nums .u64 xs) (by rw [nums_length, HR.1, Nat.mul_one]) (reads_cells HR) ⟨g, 0, none⟩ 1 1 (nums .u64 [y]) rfl (reads_cells (reads1 hg)) (by omega) (by simp only [maxLen]; omega) (by omega)
    obtain ⟨A2, c2, rfl⟩ := own_slice o3
    rw [← nums_append] at o3
    exact ⟨A2, c2, W3, fun ty => r3, o3, pw_below_grown (Below.refl _ _) _ (Nat.le_refl _) g3 (fun k hk => by cases hk)⟩
/-- A box's pointer; a node's value. -/
def SpA (R : Rows) (s : Nat) (o : Obj) (u : Value) : Prop := ∃ g, u = .pointer (some ⟨g, 0, none⟩) ∧ R s = some (g, o)
def SpN (D : Its) (s s' : Nat) (L : Bool) (n n' : Nat) (xs ys : List Int) (u : Value) : Prop := ∃ A c A' c', u = .agg #[.bool L, .slice A n c, .slice A' n' c'] ∧ D s = some (A, n, xs) ∧ D s' = some (A', n', ys) ∧ (n ≤ c ∧ n' ≤ c') ∧ (A = none → c = 0) ∧ (A' = none → c' = 0)
theorem SpA.up {R : Rows} {s k : Nat} {o : Obj} {u : Value} {x : Option (Nat × Obj)} (h : SpA R s o u) (hn : s ≠ k) : SpA (upd R k x) s o u := by
  obtain ⟨g, e, r⟩ := h; exact ⟨g, e, (upd_ne _ _ hn).trans r⟩
theorem SpN.up {D : Its} {s s' k k' : Nat} {L : Bool} {n n' : Nat} {xs ys : List Int} {u : Value} {x y : Option (Option Addr × Nat × List Int)} (h : SpN D s s' L n n' xs ys u) (h1 : s ≠ k) (h2 : s ≠ k') (h3 : s' ≠ k) (h4 : s' ≠ k') : SpN (upd (upd D k x) k' y) s s' L n n' xs ys u := by
  obtain ⟨A, c, A', c', e, r, r', q⟩ := h
  exact ⟨A, c, A', c', e, (upd_ne _ _ h2).trans ((upd_ne _ _ h1).trans r), (upd_ne _ _ h4).trans ((upd_ne _ _ h3).trans r'), q⟩
theorem SpN.new {D : Its} {s s' : Nat} (hs : s ≠ s') {L : Bool} {W : World} {base n n' c c' : Nat} {A A' : Option Addr} {xs ys : List Int} (ho : Own2 W base A c A' c' n n' xs ys) : SpN (upd (upd D s (some (A, n, xs))) s' (some (A', n', ys))) s s' L n n' xs ys (.agg #[.bool L, .slice A n c, .slice A' n' c']) :=
  ⟨A, c, A', c', rfl, (upd_ne _ _ hs).trans (upd_same _ _ _), upd_same _ _ _, ⟨ho.lk, ho.lv⟩, fun h => (ho.nk h).2, fun h => (ho.nv h).2⟩
theorem keepS {sel : Nat → Bool} {v : Nat → Value} {i j : Nat} {u : Value} {p p' : Value → Prop} (hij : j ≠ i) (h : sel j = true → p (v j)) (hp : p (v j) → p' (v j)) : upd sel i true j = true → p' (upd v i u j) := by
  rw [upd_ne _ _ hij, upd_ne _ _ hij]; exact fun h' => hp (h h')
theorem newS {sel : Nat → Bool} {v : Nat → Value} {i : Nat} {u : Value} {p : Value → Prop} (h : p u) : upd sel i true i = true → p (upd v i u i) := by
  rw [upd_same, upd_same]; exact fun _ => h
/-- A slice of one number; a list that is new. -/
def SpS (R : Rows) (s : Nat) (y : Int) (u : Value) : Prop := ∃ g, u = .slice (some ⟨g, 0, none⟩) 1 1 ∧ R s = some (g, .cells #[.int .u64 y] 25)
def SpK (D : Its) (s n : Nat) (xs : List Int) (u : Value) : Prop := ∃ A c, u = .slice A n c ∧ D s = some (A, n, xs)
theorem SpS.up {R : Rows} {s k : Nat} {y : Int} {u : Value} {x : Option (Nat × Obj)} (h : SpS R s y u) (hn : s ≠ k) : SpS (upd R k x) s y u := by
  obtain ⟨g, e, r⟩ := h; exact ⟨g, e, (upd_ne _ _ hn).trans r⟩
theorem SpK.up {D : Its} {s k n : Nat} {xs : List Int} {u : Value} {x : Option (Option Addr × Nat × List Int)} (h : SpK D s n xs u) (hn : s ≠ k) : SpK (upd D k x) s n xs u := by
  obtain ⟨A, c, e, r⟩ := h; exact ⟨A, c, e, (upd_ne _ _ hn).trans r⟩
theorem keepF {sel : Nat → Bool} {i j : Nat} {p p' : Prop} (hij : j ≠ i) (h : sel j = false → p) (hp : p → p') : upd sel i true j = false → p' := by
  rw [upd_ne _ _ hij]; exact fun h' => hp (h h')
theorem newF {sel : Nat → Bool} {i : Nat} {p : Prop} : upd sel i true i = false → p := by
  rw [upd_same]; intro h; cases h
theorem its1 {DT D' : Its} {x : Option (Option Addr × Nat × List Int)} {i : Nat} (hD : ∀ p, p ≠ i → D' p = DT p) (hi : D' i = x) : D' = upd DT i x := by
  funext p
  by_cases h1 : p = i
  · subst h1; rw [upd_same]; exact hi
  rw [upd_ne _ _ h1]
  exact hD p h1
theorem its2 {DT D' : Its} {x y : Option (Option Addr × Nat × List Int)} {i j : Nat} (hD : ∀ p, p ≠ i → p ≠ j → D' p = DT p) (hi : D' i = x) (hj : D' j = y) : D' = upd (upd DT i x) j y := by
  funext p
  by_cases h2 : p = j
  · subst h2; rw [upd_same]; exact hj
  rw [upd_ne _ _ h2]
  by_cases h1 : p = i
  · subst h1; rw [upd_same]; exact hi
  rw [upd_ne _ _ h1]
  exact hD p h1 h2
end Go.Proofs.Ytdekplalhfpooaa.Knt
