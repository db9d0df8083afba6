/- super: append of noughts; small, May and Put, by their contracts (every input). -/
import Derived.Test.YtnnclfaibcedoaaOrd
set_option linter.unusedVariables false
set_option linter.unusedSimpArgs false
namespace Go.Proofs.Ytnnclfaibcedoaa.Sup
open Go Go.RowKit Go.Proofs.YtnnclfaibcedoaaW.PrintWords Go.Proofs.YtnnclfaibcedoaaW.PrintLast Go.Proofs.YtnnclfaibcedoaaW.PrintMore Base Odr

theorem zeros_cells (m : Nat) : Builtin.zeroCells #[Value.int .u8 0] m = (nums .u8 (List.replicate m 0)).toArray := by
  apply Array.ext'
  apply List.ext_getElem
  · simp [Builtin.zeroCells, nums]
  · intro i h1 h2
    simp [Builtin.zeroCells, nums, Nat.mod_one]
/-- 'append(b, make([]byte, m)...)', b a row of the call's own that is not empty. -/
theorem append_zeros {w : World} {base g n cap : Nat} (m : Nat) {xs : List Int} (hown : w.ownsRow base 5 1 (.slice (some ⟨g, 0, none⟩) n cap) n (nums .u8 xs)) (hm : 0 < m) (hs : n + m ≤ 100000) (hb : base ≤ w.heap.size) :
    ∃ A' c' w', (∀ ty, (Builtin.append_ #[22, 3] ty #[.slice (some ⟨g, 0, none⟩) n cap, .int .i64 (m : Int)]).run Try.prog w = .ok (.slice A' (n + m) c') w') ∧ w'.ownsRow base 5 1 (.slice A' (n + m) c') (n + m) (nums .u8 (xs ++ List.replicate m 0)) ∧ w.grownBy w' (some g) := by
  have hxl : xs.length = n := by have := hown.1; simpa [nums] using this
  obtain ⟨i, hi, hzz⟩ := Option.map_eq_some_iff.1 info8
  simp only [Prod.mk.injEq] at hzz
  obtain ⟨hz0, hz1, hz2⟩ := hzz
  have hlen : (nums .u8 (xs ++ List.replicate m 0)).length = (n + m) * 1 := by rw [nums_length, List.length_append, List.length_replicate, hxl, Nat.mul_one]
  have hint : Try.prog.underlying 3 = some (.int .i64) := Try.underlying3
  have hwr : IntKind.i64.wrap (m : Int) = (m : Int) := IntWalk.i64_in _ (by omega)
  have hnn : ¬ ((m : Int) < 0) := by omega
  have hbig : ¬ (281474976710656 < (m : Int)) := by omega
  have hm0 : m ≠ 0 := by omega
  have hzc := zeros_cells m
  by_cases hroom : n + m ≤ cap
  · obtain ⟨-, hf⟩ := hown
    rcases hf with ⟨h, -⟩ | ⟨g', cap', cur, h, hbg, hg, hnc, hcm, hcs, htake⟩
    · cases h
    · injection h with h1 h2 h3
      injection h1 with h1; injection h1 with h1
      subst h1; subst h3
      have hst := run_storeCells_at Try.prog g n 5 (nums .u8 (List.replicate m 0)) 0 cur w hg (by rw [nums_length, List.length_replicate, hcs]; omega) (by intro v hv; simp only [nums, List.mem_map] at hv; obtain ⟨x, -, rfl⟩ := hv; rfl)
      simp only [Nat.add_zero] at hst
      refine ⟨some ⟨g, 0, none⟩, cap, _, fun ty => by simp [Builtin.append_, run_underlying Try.underlying22, run_underlying hint, sizeOf, typeInfo, zeroValue, hi, hz0, hz1, hz2, asInt, asIntOf, hwr, hnn, hbig, hm0, hroom, Value.cells, hzc, Addr.add_lit, hst]; rfl, ?_, ?_⟩
      · refine ⟨hlen, .inr ⟨g, cap, _, rfl, hbg, setRow_heap w g cur _ 5 _ hg, hroom, hcm, ?_, ?_⟩⟩
        · simp only [List.size_toArray, List.length_append, List.length_take, List.length_drop, Array.length_toList, nums_length, List.length_replicate]
          omega
        · have e1 : List.take n cur.toList = nums .u8 xs := by simpa using htake
          rw [List.toList_toArray, e1, ← List.append_assoc]
          have e2 : nums .u8 xs ++ nums .u8 (List.replicate m 0) = nums .u8 (xs ++ List.replicate m 0) := by simp [nums]
          rw [e2, ← hlen]
          exact List.take_left
      · exact ⟨rfl, rfl, rfl, by simp, fun k _ hk => setRow_other w g k _ (fun e => hk (by simp [Value.ownBlock, e]))⟩
  · have holds : ∀ j u, (nums .u8 xs)[j]? = some u → w.cell? ((⟨g, 0, none⟩ : Addr).add j) = some u := hown.cells (g := g) rfl
    have hfc := run_firstCells_some (P := Try.prog) w.drew 1 n ⟨g, 0, none⟩ n cap (nums .u8 xs) (by rw [nums_length]; omega) holds
    have h63 : ¬ (9223372036854775807 < ((n : Int) + (m : Int))) := by omega
    have hfit : ¬ (281474976710656 < Builtin.nextslicecap (n + m) cap) := by have := growslice_fits (need := n + m) (old := cap) (bytes := 1) (by omega) (by omega); omega
    have hge := grownCap_ge w (n + m) cap 5
    have hcm := grownCap_le_maxLen w (n + m) cap 5 (by simp only [maxLen]; omega)
    have hg0 : ∀ ty, (Builtin.append_ #[22, 3] ty #[.slice (some ⟨g, 0, none⟩) n cap, .int .i64 (m : Int)]).run Try.prog w = .ok (.slice (some ⟨w.heap.size, 0, none⟩) (n + m) (grownCap w (n + m) cap 5)) (w.drew.alloc (.cells ((nums .u8 xs).toArray ++ ((nums .u8 (List.replicate m 0)).toArray ++ Builtin.zeroCells #[.int .u8 0] (grownCap w (n + m) cap 5 - (n + m)))) 5)) := by
      intro ty
      simp [Builtin.append_, run_underlying Try.underlying22, run_underlying hint, sizeOf, typeInfo, zeroValue, hi, hz0, hz1, hz2, asInt, asIntOf, hwr, hnn, hbig, hm0, hroom, Value.cells, hzc, h63, hfit, hfc, newRow, grownCap, Question.forced]
    refine ⟨_, _, _, hg0, ⟨hlen, .inr ⟨w.heap.size, _, _, rfl, hb, heap_alloc_new w.drew _, hge, hcm, ?_, ?_⟩⟩, ⟨rfl, rfl, rfl, by simp, fun k hk _ => Below.heap_alloc w.drew _ k hk⟩⟩
    · simp only [Array.size_append, List.size_toArray, size_zeroCells, nums_length, List.length_replicate, hxl]
      simp
      omega
    · simp only [Array.toList_append]
      rw [← List.append_assoc]
      have e2 : nums .u8 xs ++ nums .u8 (List.replicate m 0) = nums .u8 (xs ++ List.replicate m 0) := by simp [nums]
      rw [e2, ← hlen]
      exact List.take_left
theorem wp_zeros {ops : Array Oper} {rest : List Oper} {o : Oper} {a : Act} {Q : Exit → Act → World → Prop} {w w5 : World} {v v5 : Value} (m : Int) (hgd : o.guard = none) (s : Operand)
    (ho : o.op = .call { callee := .builtin .append, args := #[s, .const (.int .i64 m)], argTypes := #[22, 3] }) (hs : a.eval s = v) (hr : ∀ ty, (Builtin.append_ #[22, 3] ty #[v, .int .i64 m]).run Try.prog w = .ok v5 w5)
    (h : wpList Try.prog ops Q rest (a.put o.dst v5) w5) : wpList Try.prog ops Q (o :: rest) a w := by
  refine wpList_plain hgd fun K hK => ?_
  unfold Oper.wp execOp
  have hx : a.eval (.const (.int .i64 m)) = .int .i64 m := rfl
  simp only [ho, resolve, invoke, builtin, Sem.run_bind, Sem.run_pure, Result.andThen_ok, List.map_toArray, List.map_cons, List.map_nil, hs, hx, hr]
  exact hK _ _ h
def sm (n : Int) : Bool := decide (1 ≤ n) && decide (n < 4611686018427387904)
theorem sm_range {n : Int} (h : sm n = true) : 1 ≤ n ∧ n < 4611686018427387904 := by simpa [sm] using h
def may (G B D N : Int) : Bool := sm G && decide (16 ≤ B) && decide (B ≤ 1024) && decide (D < B) && sm N
theorem may_all {G B D N : Int} (h : may G B D N = true) : (1 ≤ G ∧ G < 4611686018427387904) ∧ (16 ≤ B ∧ B ≤ 1024) ∧ D < B ∧ (1 ≤ N ∧ N < 4611686018427387904) := by
  simp only [may, Bool.and_eq_true, decide_eq_true_eq] at h
  exact ⟨sm_range h.1.1.1.1, ⟨h.1.1.1.2, h.1.1.2⟩, h.1.2, sm_range h.2⟩
theorem small_any (n : Int) (w : World) : Calls Try.prog 21 #[.int .u64 n] w fun e w' => e = .returned (.bool (sm n)) ∧ w = w' := by
  by_cases h : 1 ≤ n
  · have h1 : decide (1 ≤ n) = true := decide_eq_true h
    have e : sm n = decide (n < 4611686018427387904) := by simp [sm, h]
    rw [e]
    clear h e
    go_enter Try.func21, Try.ntmps21
    go_wp2
    go_ret
    exact ⟨rfl, rfl⟩
  · have h1 : decide (1 ≤ n) = false := decide_eq_false h
    have e : sm n = false := by simp [sm, h]
    rw [e]
    clear h e
    go_enter Try.func21, Try.ntmps21
    go_wp2
    go_ret
    exact ⟨rfl, rfl⟩
theorem small_at {b : Bool} {n : Int} (w : World) (h : sm n = b) : Calls Try.prog 21 #[.int .u64 n] w fun e w' => e = .returned (.bool b) ∧ w = w' := by
  subst h; exact small_any n w
set_option maxHeartbeats 1600000 in
theorem may_any (G B D N : Int) (w : World) : Calls Try.prog 13 #[.agg #[.int .u64 G, .int .i64 B, .int .u64 D, .int .u64 N]] w fun e w' => e = .returned (.bool (may G B D N)) ∧ Below w.heap.size w w' := by
  have b0 : Below w.heap.size w (w.alloc (.cells #[.int .u64 G, .int .i64 B, .int .u64 D, .int .u64 N] 25)) := (Below.refl _ _).alloc (Nat.le_refl _) _
  have B0 := Lib.hid b0
  clear b0
  cases hG : sm G with
  | false =>
    have e : may G B D N = false := by simp [may, hG]
    rw [e]
    have HG := Lib.hid hG
    clear e hG
    go_enter Try.func13, Try.ntmps13
    go_wp2_with fail
    refine (small_at _ HG.out).mono ?_; rintro e w' ⟨rfl, rfl⟩
    go_wp2_with fail
    go_ret
    exact ⟨rfl, B0.out⟩
  | true =>
    have HG := Lib.hid hG
    by_cases h1 : 16 ≤ B
    · by_cases h2 : B ≤ 1024
      · have hw : IntKind.u64.wrap B = B := by rw [wrap_u64]; omega
        have q1 : decide (16 ≤ B) = true := decide_eq_true h1
        have q2 : decide (B ≤ 1024) = true := decide_eq_true h2
        by_cases h3 : D < B
        · have q3 : decide (D < B) = true := decide_eq_true h3
          obtain ⟨b, hb⟩ : ∃ b, sm N = b := ⟨_, rfl⟩
          have e : may G B D N = b := by simp [may, hG, h1, h2, h3, hb]
          rw [e]
          have HN := Lib.hid hb
          clear e hb hG
          go_enter Try.func13, Try.ntmps13
          go_wp2_with fail
          refine (small_at _ HG.out).mono ?_; rintro e w' ⟨rfl, rfl⟩
          go_wp2_with fail
          refine (small_at _ HN.out).mono ?_; rintro e w' ⟨rfl, rfl⟩
          go_wp2_with fail
          go_ret
          exact ⟨rfl, B0.out⟩
        · have q3 : decide (D < B) = false := decide_eq_false h3
          have e : may G B D N = false := by simp [may, hG, h1, h2, h3]
          rw [e]
          clear e hG
          go_enter Try.func13, Try.ntmps13
          go_wp2_with fail
          refine (small_at _ HG.out).mono ?_; rintro e w' ⟨rfl, rfl⟩
          go_wp2_with fail
          go_ret
          exact ⟨rfl, B0.out⟩
      · have q1 : decide (16 ≤ B) = true := decide_eq_true h1
        have q2 : decide (B ≤ 1024) = false := decide_eq_false h2
        have e : may G B D N = false := by simp [may, hG, h1, h2]
        rw [e]
        clear e hG h1 h2
        go_enter Try.func13, Try.ntmps13
        go_wp2_with fail
        refine (small_at _ HG.out).mono ?_; rintro e w' ⟨rfl, rfl⟩
        go_wp2_with fail
        go_ret
        exact ⟨rfl, B0.out⟩
    · have q1 : decide (16 ≤ B) = false := decide_eq_false h1
      have e : may G B D N = false := by simp [may, hG, h1]
      rw [e]
      clear e hG h1
      go_enter Try.func13, Try.ntmps13
      go_wp2_with fail
      refine (small_at _ HG.out).mono ?_; rintro e w' ⟨rfl, rfl⟩
      go_wp2_with fail
      go_ret
      exact ⟨rfl, B0.out⟩
end Go.Proofs.Ytnnclfaibcedoaa.Sup
