/- Knots: the document's Join, by its contract (every input). -/
import Derived.BigQuiet
import Derived.Test.YtdekplalhfpooaaKntO
set_option linter.unusedVariables false
set_option linter.unusedSimpArgs false
namespace Go.Proofs.Ytdekplalhfpooaa.Knt
open Go Go.RowKit Go.Proofs.YtdekplalhfpooaaW.PrintWords Go.Proofs.YtdekplalhfpooaaW.PrintLast Go.Proofs.YtdekplalhfpooaaW.PrintMore Base Odr Hlp Nod Go.Proofs.Ytdekplalhfpooaa.Inv

theorem ito {p : Prop} (h : true = true → p) : p := h rfl
/-- A number, a node made, a block: whatever order they come up in. -/
def JI (b : World) (L : Bool) (m n : Nat) (xs ys : List Int) (i2 i3 i4 : Nat) (sel : Nat → Bool) (v : Nat → Value) (W : World) : Prop :=
  ∃ (g : Nat) (A : Option Addr) (c : Nat) (A' : Option Addr) (c' : Nat), Below b.heap.size b W ∧ (sel i2 = true → v i2 = .int .i64 (m : Int)) ∧
    (sel i3 = true → v i3 = .agg #[.bool L, .slice A n c, .slice A' n c'] ∧ W.ownsRow b.heap.size 25 1 (.slice A n c) n (nums .u64 xs) ∧ W.ownsRow b.heap.size 25 1 (.slice A' n c') n (nums .u64 ys) ∧ Apart A A') ∧
    (sel i4 = true → v i4 = .pointer (some ⟨g, 0, none⟩) ∧ W.heap[g]? = some (.cells #[.bool false, .slice none 0 0, .slice none 0 0] 24) ∧ b.heap.size ≤ g) ∧
    (sel i3 = true → sel i4 = true → (∀ a, A = some a → a.block ≠ g) ∧ (∀ a, A' = some a → a.block ≠ g))
variable {b : World} {L : Bool} {m n : Nat} {xs ys : List Int} {i2 i3 i4 : Nat} {sel : Nat → Bool} {v : Nat → Value} {W W' : World}
theorem JI.bel (h : JI b L m n xs ys i2 i3 i4 sel v W) : Below b.heap.size b W := by obtain ⟨_, _, _, _, _, h, _⟩ := h; exact h
theorem JI.start (h : Below b.heap.size b W) : JI b L m n xs ys i2 i3 i4 (fun _ => false) (fun _ => undef) W :=
  ⟨0, none, 0, none, 0, h, fun h => (Bool.false_ne_true h).elim, fun h => (Bool.false_ne_true h).elim, fun h => (Bool.false_ne_true h).elim, fun h => (Bool.false_ne_true h).elim⟩
theorem JI.val (h : JI b L m n xs ys i2 i3 i4 sel v W) (h3 : i3 ≠ i2) (h4 : i4 ≠ i2) (hb : Below W.heap.size W W') : JI b L m n xs ys i2 i3 i4 (upd sel i2 true) (upd v i2 (.int .i64 (m : Int))) W' := by
  obtain ⟨g, A, c, A', c', hB, e2, e3, e4, e5⟩ := h
  refine ⟨g, A, c, A', c', below_then' hB hb, fun _ => upd_same _ _ _, fun h => ?_, fun h => ?_, fun h h' => ?_⟩
  · rw [upd_ne _ _ h3] at h
    obtain ⟨r1, r2, r3, r4⟩ := e3 h
    exact ⟨by rw [upd_ne _ _ h3]; exact r1, pw_own_below r2 hb, pw_own_below r3 hb, r4⟩
  · rw [upd_ne _ _ h4] at h
    obtain ⟨r1, r2, r3⟩ := e4 h
    exact ⟨by rw [upd_ne _ _ h4]; exact r1, keep_row r2 hb, r3⟩
  · rw [upd_ne _ _ h3] at h; rw [upd_ne _ _ h4] at h'
    exact e5 h h'
theorem own_blk_ge {W : World} {base n c : Nat} {A : Option Addr} {cs : List Value} (h : W.ownsRow base 25 1 (.slice A n c) n cs) : ∀ a, A = some a → base ≤ a.block ∧ a.block < W.heap.size := by
  rintro a rfl
  exact ⟨own_base h a.block rfl, own_lt h a.block rfl⟩
theorem JI.call (h : JI b L m n xs ys i2 i3 i4 sel v W) (h2 : i2 ≠ i3) (h4 : i4 ≠ i3) {A : Option Addr} {c : Nat} {A' : Option Addr} {c' : Nat} (hs : sel i3 = false) (o1 : W'.ownsRow W.heap.size 25 1 (.slice A n c) n (nums .u64 xs)) (o2 : W'.ownsRow W.heap.size 25 1 (.slice A' n c') n (nums .u64 ys)) (ha : Apart A A') (hb : Below W.heap.size W W') :
    JI b L m n xs ys i2 i3 i4 (upd sel i3 true) (upd v i3 (.agg #[.bool L, .slice A n c, .slice A' n c'])) W' := by
  obtain ⟨g, A0, c0, A0', c0', hB, e2, e3, e4, e5⟩ := h
  refine ⟨g, A, c, A', c', below_then' hB hb, fun h => ?_, fun _ => ⟨upd_same _ _ _, own_weaken o1 hB.size, own_weaken o2 hB.size, ha⟩, fun h => ?_, fun _ h => ?_⟩
  · rw [upd_ne _ _ h2] at h ⊢; exact e2 h
  · rw [upd_ne _ _ h4] at h
    obtain ⟨r1, r2, r3⟩ := e4 h
    exact ⟨by rw [upd_ne _ _ h4]; exact r1, keep_row r2 hb, r3⟩
  · rw [upd_ne _ _ h4] at h
    obtain ⟨r1, r2, r3⟩ := e4 h
    have hlt := (Array.getElem?_eq_some_iff.1 r2).1
    exact ⟨fun a e => by have := (own_blk_ge o1 a e).1; omega, fun a e => by have := (own_blk_ge o2 a e).1; omega⟩
theorem JI.box (h : JI b L m n xs ys i2 i3 i4 sel v W) (h2 : i2 ≠ i4) (h3 : i3 ≠ i4) :
    JI b L m n xs ys i2 i3 i4 (upd sel i4 true) (upd v i4 (.pointer (some ⟨W.heap.size, 0, none⟩))) (W.alloc (.cells #[.bool false, .slice none 0 0, .slice none 0 0] 24)) := by
  obtain ⟨g, A, c, A', c', hB, e2, e3, e4, e5⟩ := h
  have hb : Below W.heap.size W (W.alloc (.cells #[.bool false, .slice none 0 0, .slice none 0 0] 24)) := (Below.refl _ _).alloc (Nat.le_refl _) _
  refine ⟨W.heap.size, A, c, A', c', below_then' hB hb, fun h => ?_, fun h => ?_, fun _ => ⟨upd_same _ _ _, heap_alloc_new _ _, hB.size⟩, fun h _ => ?_⟩
  · rw [upd_ne _ _ h2] at h ⊢; exact e2 h
  · rw [upd_ne _ _ h3] at h
    obtain ⟨r1, r2, r3, r4⟩ := e3 h
    exact ⟨by rw [upd_ne _ _ h3]; exact r1, pw_own_below r2 hb, pw_own_below r3 hb, r4⟩
  · rw [upd_ne _ _ h3] at h
    obtain ⟨r1, r2, r3, r4⟩ := e3 h
    exact ⟨fun a e => by have := (own_blk_ge r2 a e).2; omega, fun a e => by have := (own_blk_ge r3 a e).2; omega⟩
/-- A box with a node's lists, whole rows of the call's own. -/
structure OB (W : World) (base g : Nat) (cs : Array Value) (A : Option Addr) (c : Nat) (A' : Option Addr) (c' n n' : Nat) (xs ys : List Int) : Prop where
  box : W.heap[g]? = some (.cells cs 24)
  ge : base ≤ g
  k : W.ownsRow base 25 1 (.slice A n c) n (nums .u64 xs)
  v : W.ownsRow base 25 1 (.slice A' n' c') n' (nums .u64 ys)
  ap : Apart A A'
theorem own_off {W : World} {base n c g : Nat} {A : Option Addr} {cs : List Value} (h : W.ownsRow base 25 1 (.slice A n c) n cs) (hf : ∀ a, A = some a → a.block ≠ g) : ∀ k, (Value.slice A n c).ownBlock = some k → k ≠ g := by
  intro k hk
  cases A with
  | none => simp [Value.ownBlock] at hk
  | some a => simp only [Value.ownBlock] at hk; injection hk with hk; rw [← hk]; exact hf a rfl
theorem OB.below {base g : Nat} {cs : Array Value} {A : Option Addr} {c : Nat} {A' : Option Addr} {c' n n' : Nat} {xs ys : List Int} (h : OB W base g cs A c A' c' n n' xs ys) (hb : Below W.heap.size W W') : OB W' base g cs A c A' c' n n' xs ys :=
  ⟨keep_row h.box hb, h.ge, pw_own_below h.k hb, pw_own_below h.v hb, h.ap⟩
theorem OB.made {base g : Nat} {cs cs' : Array Value} {A : Option Addr} {c : Nat} {A' : Option Addr} {c' n n' : Nat} {xs ys : List Int} (hg : W.heap[g]? = some (.cells cs 24)) (hge : base ≤ g) (hk : W.ownsRow base 25 1 (.slice A n c) n (nums .u64 xs)) (hv : W.ownsRow base 25 1 (.slice A' n' c') n' (nums .u64 ys)) (ha : Apart A A') :
    OB (W.setRow g cs') base g cs' A c A' c' n n' xs ys :=
  ⟨setRow_heap _ _ _ _ _ _ hg, hge, own_setRow hk (own_ne hk hg (by decide)) _, own_setRow hv (own_ne hv hg (by decide)) _, ha⟩
theorem ap_own {A A' : Option Addr} {n c n' c' : Nat} (h : Apart A A') : (Value.slice A' n' c').ownBlock = none ∨ (Value.slice A' n' c').ownBlock ≠ (Value.slice A n c).ownBlock := by
  cases A' with
  | none => exact .inl rfl
  | some a' =>
    right
    cases A with
    | none => simp [Value.ownBlock]
    | some a => simp only [Value.ownBlock]; intro he; injection he with he; exact h a a' rfl rfl he.symm
theorem own_later {W : World} {base base' n c n' c' : Nat} {A A' : Option Addr} {cs cs' : List Value} {W0 : World} (h : W0.ownsRow base 25 1 (.slice A n c) n cs) (h' : W.ownsRow base' 25 1 (.slice A' n' c') n' cs') (hb : W0.heap.size ≤ base') : (Value.slice A' n' c').ownBlock = none ∨ (Value.slice A' n' c').ownBlock ≠ (Value.slice A n c).ownBlock :=
  ap_own (apart_own (p := 0) h h' hb)
end Go.Proofs.Ytdekplalhfpooaa.Knt
