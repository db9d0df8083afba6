/- Knots: slices.Clone; what is made of a node's lists (closures), by their contracts (every input). -/
import Derived.BigQuiet
import Derived.Lib.SliceRun
import Derived.Lib.LazyBuf
import Derived.Test.YtdekplalhfpooaaKntB
set_option linter.unusedVariables false
set_option linter.unusedSimpArgs false
namespace Go.Proofs.Ytdekplalhfpooaa.Knt
open Go Go.RowKit Go.Proofs.YtdekplalhfpooaaW.PrintWords Go.Proofs.YtdekplalhfpooaaW.PrintLast Go.Proofs.YtdekplalhfpooaaW.PrintMore Base Odr Hlp Nod

section
variable {P : Program} {ops : Array Oper} {Q : Exit → Act → World → Prop}
/-- A call of a function that lies in a slot, by its contract. -/
theorem goes_fv {oi : Oper} {N : Option Tmp} {a : Act} {w : World} {K : Act → World → Prop} {f : FuncId} {fn : Func} {as_ : Array Operand} {ts : Array TypeId} (hf : P.funcs[f]? = some fn) (hname : (fn.name == "runtime.NumGoroutine") = false) (hb : fn.body.isSome = true) (t : Operand) (bnd cap args : Array Value)
    (hw : Region.wanted oi (yielded ops a.tmps) = true) (hN : oi.dst = N) (hop : oi.op = .call { callee := .value t, args := as_, argTypes := ts }) (hv : a.eval t = .func (.func f) bnd cap) (hargs : bnd ++ as_.map a.eval ++ cap = args)
    (h : Calls P f args w fun e w' => ∃ v, e = .returned v ∧ K (a.put N v) w') : if Region.wanted oi (yielded ops a.tmps) = true then Oper.wp P oi a w K Q else K (a.put N undef) w := by
  refine call_ f args hw hN ?_ h
  have he := enters_ hf hname hb args w
  unfold execOp
  simp only [hop, resolve, hv, Deferred.ofValue, invoke, Sem.run_bind, Sem.run_pure, Result.andThen_ok]
  rw [hargs]
  exact he
end
/-- Numbers of the call's own, from a place of their block on. -/
def Mine (W : World) (base : Nat) (A : Option Addr) (n : Nat) (xs : List Int) : Prop :=
  xs.length = n ∧ n ≤ maxLen ∧ (0 < n → ∃ (g lo : Nat) (pre post : List Value), A = some ⟨g, lo, none⟩ ∧ base ≤ g ∧ pre.length = lo ∧ W.heap[g]? = some (.cells (pre ++ nums .u64 xs ++ post).toArray 25 (0, 0)))
theorem mine_below {W W' : World} {base n : Nat} {A : Option Addr} {xs : List Int} (h : Mine W base A n xs) (hb : Below W.heap.size W W') : Mine W' base A n xs := by
  refine ⟨h.1, h.2.1, fun hn => ?_⟩
  obtain ⟨g, lo, pre, post, e, hg, hl, hh⟩ := h.2.2 hn
  exact ⟨g, lo, pre, post, e, hg, hl, keep_row hh hb⟩
theorem mine_weaken {W : World} {base base' n : Nat} {A : Option Addr} {xs : List Int} (h : Mine W base A n xs) (hb : base' ≤ base) : Mine W base' A n xs := by
  refine ⟨h.1, h.2.1, fun hn => ?_⟩
  obtain ⟨g, lo, pre, post, e, hg, hl, hh⟩ := h.2.2 hn
  exact ⟨g, lo, pre, post, e, Nat.le_trans hb hg, hl, hh⟩
theorem mine_reads {W : World} {base n : Nat} {A : Option Addr} {xs : List Int} (h : Mine W base A n xs) : ReadsInt W .u64 A n xs := by
  refine ⟨h.1, by have := h.2.1; simp only [maxLen] at this; omega, fun hn => ?_⟩
  obtain ⟨g, lo, pre, post, e, hg, hl, hh⟩ := h.2.2 hn
  refine ⟨_, e, fun j hj => ?_⟩
  have ha : (⟨g, lo, none⟩ : Addr).add j = ⟨g, lo + j, none⟩ := by unfold Addr.add; split <;> simp_all
  rw [ha, cell_of_row W g (lo + j) _ _ _ hh]
  have hx : j < xs.length := by rw [h.1]; exact hj
  rw [List.getElem?_toArray, List.append_assoc, List.getElem?_append_right (by omega), hl, Nat.add_sub_cancel_left, List.getElem?_append_left (by unfold nums; rw [List.length_map]; exact hx)]
  unfold nums
  rw [List.getElem?_map, List.getElem?_eq_getElem hx, List.getD_eq_getElem?_getD, List.getElem?_eq_getElem hx]
  rfl
theorem own_mine {W : World} {base n c h lo : Nat} {A : Option Addr} {xs : List Int} (ho : W.ownsRow base 25 1 (.slice A n c) n (nums .u64 xs)) (hx : xs.length = n) : n = 0 ∨ ∃ g post, A = some ⟨g, 0, none⟩ ∧ base ≤ g ∧ n ≤ c ∧ c ≤ maxLen ∧ W.heap[g]? = some (.cells (nums .u64 xs ++ post).toArray 25 (0, 0)) := by
  rcases ho.2 with ⟨hv, h0⟩ | ⟨g, cap, cur, hv, hg, hh, hn, hm, hs, ht⟩
  · exact .inl h0
  · injection hv with h1 h2 h3
    subst h1; subst h3
    refine .inr ⟨g, cur.toList.drop n, rfl, hg, hn, hm, ?_⟩
    rw [hh]
    rw [Nat.mul_one] at ht
    rw [← ht, List.take_append_drop]
/-- The first of a row's numbers. -/
theorem mine_take {W : World} {base n c h : Nat} {A : Option Addr} {xs : List Int} (ho : W.ownsRow base 25 1 (.slice A n c) n (nums .u64 xs)) (hx : xs.length = n) (hh : h ≤ n) : Mine W base A h (xs.take h) := by
  rcases own_mine (h := 0) (lo := 0) ho hx with h0 | ⟨g, post, e, hg, hn, hm, hr⟩
  · exact ⟨by rw [List.length_take]; omega, by simp only [maxLen]; omega, fun h1 => absurd h1 (by omega)⟩
  · refine ⟨by rw [List.length_take]; omega, by omega, fun _ => ⟨g, 0, [], nums .u64 (xs.drop h) ++ post, e, hg, rfl, ?_⟩⟩
    rw [hr, List.nil_append, ← List.append_assoc, ← nums_append, List.take_append_drop]
/-- Where a row's numbers from a place on lie. -/
def dropA (A : Option Addr) (c h : Nat) : Option Addr := if c = h then A else A.map (·.add (h * 1))
theorem mine_drop {W : World} {base n c h : Nat} {A : Option Addr} {xs : List Int} (ho : W.ownsRow base 25 1 (.slice A n c) n (nums .u64 xs)) (hx : xs.length = n) (hh : h ≤ n) : Mine W base (dropA A c h) (n - h) (xs.drop h) := by
  unfold dropA
  rcases own_mine (h := 0) (lo := 0) ho hx with h0 | ⟨g, post, e, hg, hn, hm, hr⟩
  · exact ⟨by rw [List.length_drop]; omega, by simp only [maxLen]; omega, fun h1 => absurd h1 (by omega)⟩
  · refine ⟨by rw [List.length_drop]; omega, by omega, fun h1 => ⟨g, h, nums .u64 (xs.take h), post, ?_, hg, ?_, ?_⟩⟩
    · rw [if_neg (by omega), e]
      simp only [Option.map, add_plain, Nat.mul_one]
    · unfold nums; rw [List.length_map, List.length_take]; omega
    · rw [hr, ← nums_append, List.take_append_drop]
def CL (w w' : World) (e : Ending) (n : Nat) (xs : List Int) : Prop :=
  ∃ A c, e = .returned (.slice A n c) ∧ w'.ownsRow w.heap.size 25 1 (.slice A n c) n (nums .u64 xs) ∧ Below w.heap.size w w'
theorem own_empty {w w1 : World} (h : w1.heap[w.heap.size]? = some (.cells #[] 25)) : w1.ownsRow w.heap.size 25 1 (.slice (some ⟨w.heap.size, 0, none⟩) 0 0) ([] : List Int).length (nums .u64 []) :=
  ⟨rfl, .inr ⟨w.heap.size, 0, #[], rfl, Nat.le_refl _, h, Nat.le_refl _, by simp [maxLen], rfl, by simp [nums]⟩⟩
set_option maxRecDepth 100000 in
set_option maxHeartbeats 1600000 in
theorem clone_any (xs : List Int) (A : Option Addr) (n c : Nat) (w : World) (HR : ReadsInt w .u64 A n xs) (hn : n * 8 ≤ 140737488355328) (hA : A = none → n = 0 ∧ c = 0) :
    Calls Try.prog 65 #[.slice A n c] w fun e w' => CL w w' e n xs := by
  cases A with
  | none =>
    obtain ⟨rfl, rfl⟩ := hA rfl
    obtain rfl : xs = [] := List.eq_nil_of_length_eq_zero HR.1
    clear HR hA
    have qT : ∀ W : World, (binOp .eql 22 (.slice none 0 0) (.slice none 0 0)).run Try.prog W = .ok (.bool true) W := fun W => Lib.run_eql_slice_nil W 22 25 none 0 0 0 0 Try.underlying22
    go_enter Try.func65, Try.ntmps65
    go_wp2_with fail
    go_ret
    exact ⟨none, 0, rfl, own_nil _ _ _ _, Below.refl _ _⟩
  | some ad =>
    obtain ⟨w1, hw1, b1, f1, s1⟩ := made w #[] 25
    have HO := Lib.hid (own_empty f1)
    have R1 := Lib.hid (HR.below b1)
    have B1 := Lib.hid b1
    have HN := Lib.hid hn
    have HX := Lib.hid HR.1
    clear HR hn hA f1 b1 s1
    have qT : ∀ W : World, (binOp .eql 22 (.slice (some ad) n c) (.slice none 0 0)).run Try.prog W = .ok (.bool false) W := fun W => Lib.run_eql_slice_nil W 22 25 (some ad) n c 0 0 Try.underlying22
    go_enter Try.func65, Try.ntmps65
    go_wp2_with (at_builtin; go_loud (refine print_append_row (w0 := w) (W := w1) w.heap.size rfl (.tmp 5) (.tmp 6) 22 25 .u64 8 rfl Try.underlying22 info64 (by omega) (.slice (some ⟨w.heap.size, 0, none⟩) 0 0) [] xs (some ad) n c rfl rfl HO.out R1.out B1.out B1.out.size (by have := HN.out; simp; omega) ?_))
    intro v2 w2 hown hB hg hat
    obtain ⟨A2, c2, rfl⟩ := own_slice hown
    have HX' := HX.out
    rw [HX'] at hown ⊢
    clear HX'
    have O2 := Lib.hid hown
    have B2 := Lib.hid hB
    clear hown hB hg hat
    go_wp2_with fail
    go_ret
    exact ⟨A2, c2, rfl, O2.out, B2.out⟩
set_option maxRecDepth 100000 in
theorem half1_at (A : Option Addr) (n c h g : Nat) (b : Bool) (w : World) (hg : w.heap[g]? = some (.cells #[.int .i64 (h : Int)] 3)) (hh : h ≤ n) (hc : n ≤ c) :
    Calls Try.prog 48 #[.slice A n c, .bool b, .pointer (some ⟨g, 0, none⟩)] w fun e w' => e = .returned (.slice A h h) ∧ w = w' := by
  have x0 : w.cell? ⟨g, 0, none⟩ = some (.int .i64 (h : Int)) := cell_row hg rfl
  go_enter Try.func48, Try.ntmps48
  go_wp2_with fail
  go_ret
  exact ⟨rfl, rfl⟩
set_option maxRecDepth 100000 in
theorem half2_at (A : Option Addr) (n c h d g : Nat) (b : Bool) (w : World) (hg : w.heap[g]? = some (.cells #[.int .i64 (h : Int)] 3)) (hh : h ≤ n) (hc : n ≤ c) (hd : n - h = d) :
    Calls Try.prog 49 #[.slice A n c, .bool b, .pointer (some ⟨g, 0, none⟩)] w fun e w' => ∃ A2 c2, e = .returned (.slice A2 d c2) ∧ dropA A c h = A2 ∧ c - h = c2 ∧ w = w' := by
  have x0 : w.cell? ⟨g, 0, none⟩ = some (.int .i64 (h : Int)) := cell_row hg rfl
  obtain ⟨i, hi, hs⟩ := Option.map_eq_some_iff.1 info64
  have hcut := cut_from (P := Try.prog) 22 25 .i64 Try.underlying22 hi 1 (by simpa using (Prod.mk.inj (Prod.mk.inj hs).2).1) A n c (h : Int) (by omega) (by omega)
  rw [Int.toNat_natCast] at hcut
  obtain ⟨A', hA'⟩ : ∃ A', dropA A c h = A' := ⟨_, rfl⟩
  have hA2 : (if c = h then A else A.map (·.add (h * 1))) = A' := hA'
  obtain ⟨c', hc'⟩ : ∃ c', c - h = c' := ⟨_, rfl⟩
  rw [hA2, hc', hd] at hcut
  have HA := Lib.hid (And.intro hA' hc')
  clear hA' hA2 hc' hd
  go_enter Try.func49, Try.ntmps49
  go_wp2_with fail
  go_ret
  exact ⟨A', c', rfl, HA.out.1, HA.out.2, rfl⟩
set_option maxRecDepth 100000 in
theorem same1_at (A : Option Addr) (n c : Nat) (b : Bool) (w : World) : Calls Try.prog 50 #[.slice A n c, .bool b] w fun e w' => e = .returned (.slice A n c) ∧ w = w' := by
  go_enter Try.func50, Try.ntmps50
  go_wp2_with fail
  go_ret
  exact ⟨rfl, rfl⟩
end Go.Proofs.Ytdekplalhfpooaa.Knt
