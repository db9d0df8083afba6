/- Knots: slices.Delete of one number of a row of one's own; the closures of Insert, Set, Remove, by their contracts (every input). -/
import Derived.BigQuiet
import Derived.Deep.RegionLaw
import Derived.Test.YtdekplalhfpooaaKntV
set_option linter.unusedVariables false
set_option linter.unusedSimpArgs false
namespace Go.Proofs.Ytdekplalhfpooaa.Knt
open Go Go.RowKit Go.Proofs.YtdekplalhfpooaaW.PrintWords Go.Proofs.YtdekplalhfpooaaW.PrintLast Go.Proofs.YtdekplalhfpooaaW.PrintMore Base Odr Hlp Nod Go.Proofs.Ytdekplalhfpooaa.Inv

/-- An append in a region that draws its order, by its run. -/
theorem step_app_run {P : Program} {ops : Array Oper} {o : Oper} {a : Act} {w : World} {K : Act → World → Prop} {Q : Exit → Act → World → Prop} {E : Prop}
    (hg : o.guard = none) (d x : Operand) (dT sT : TypeId) (hop : o.op = Op.call { callee := Callee.builtin Builtin.append, args := #[d, x], argTypes := #[dT, sT] })
    (v u : Value) (hd : a.eval d = v) (hx : a.eval x = u) {v' : Value} {w' : World} (hr : (Builtin.append_ #[dT, sT] o.type #[v, u]).run P w = .ok v' w') (hK : K (a.put o.dst v') w') :
    if Region.wanted o (yielded ops a.tmps) = true then Oper.wp P o a w K Q else E := by
  have hw : Region.wanted o (yielded ops a.tmps) = true := by simp [Region.wanted, hg]
  rw [if_pos hw]
  unfold Oper.wp
  simp [execOp, hop, resolve, invoke, builtin, hd, hx, hr, Result.andThen]
  exact hK
theorem del_list {R Y X : List Value} {z : Value} {i d c : Nat} (hR : R.length = c) (hX : R.take i = X) (hY : Y.length = d - i) (hi : i ≤ d) (hc : d + 1 ≤ c) :
    (R.take i ++ Y ++ R.drop (i + Y.length)).length = c ∧ (R.take i ++ Y ++ R.drop (i + Y.length)).take d = X ++ Y ∧
    ((R.take i ++ Y ++ R.drop (i + Y.length)).take d ++ [z] ++ (R.take i ++ Y ++ R.drop (i + Y.length)).drop (d + 1)).length = c ∧
    ((R.take i ++ Y ++ R.drop (i + Y.length)).take d ++ [z] ++ (R.take i ++ Y ++ R.drop (i + Y.length)).drop (d + 1)).take d = X ++ Y := by
  have hXl : X.length = i := by rw [← hX, List.length_take]; omega
  have l1 : (R.take i ++ Y ++ R.drop (i + Y.length)).length = c := by rw [List.length_append, List.length_append, List.length_drop, hX, hXl]; omega
  have e1 : (R.take i ++ Y ++ R.drop (i + Y.length)).take d = X ++ Y := by
    rw [hX, List.take_append_of_le_length (by rw [List.length_append, hXl]; omega), List.take_of_length_le (by rw [List.length_append, hXl]; omega)]
  refine ⟨l1, e1, ?_, ?_⟩
  · rw [e1, List.length_append, List.length_append, List.length_append, List.length_drop, l1, hXl, List.length_singleton]; omega
  · rw [e1, List.append_assoc, List.take_append_of_le_length (by rw [List.length_append, hXl]; omega), List.take_of_length_le (by rw [List.length_append, hXl]; omega)]
set_option maxRecDepth 100000 in
set_option maxHeartbeats 3200000 in
theorem delete_at (A : Option Addr) (c d i base : Nat) (K : List Int) (w : World) (ho : w.ownsRow base 25 1 (.slice A (d + 1) c) (d + 1) (nums .u64 K)) (hK : K.length = d + 1) (hi : i ≤ d) (hb : base ≤ w.heap.size) :
    Calls Try.prog 63 #[.slice A (d + 1) c, .int .i64 (i : Int), .int .i64 ((i : Int) + 1)] w fun e w' => INS w w' e base (Value.slice A (d + 1) c).ownBlock d (K.take i ++ K.drop (i + 1)) := by
  rcases ho.2 with ⟨hv, h0⟩ | ⟨g, cap, cur, hv, hge, hh, hn, hm, hsz, ht⟩
  · omega
  injection hv with e1 e2 e3
  subst e1; subst e3
  clear e2
  rw [Nat.mul_one] at hsz ht
  obtain ⟨i0, hi0, hz0, hzs, hzb⟩ := info64'
  have hR : cur.toList.length = c := by rw [Array.length_toList]; exact hsz
  have hX : cur.toList.take i = nums .u64 (K.take i) := by rw [nums_take, ← ht, List.take_take, Nat.min_eq_left (by omega)]
  have hYl : (nums .u64 (K.drop (i + 1))).length = d - i := by rw [nums_len, List.length_drop, hK]; omega
  obtain ⟨l1, l2, l3, l4⟩ := del_list (z := .int .u64 0) hR hX hYl hi hn
  obtain ⟨AD, hAD, hsrc⟩ : ∃ AD : Addr, (if c = i + 1 then (⟨g, 0, none⟩ : Addr) else ⟨g, i + 1, none⟩) = AD ∧ ∀ j v, (nums .u64 (K.drop (i + 1)))[j]? = some v → w.drew.cell? (AD.add j) = some v := by
    refine ⟨_, rfl, fun j v hj => ?_⟩
    by_cases h : c = i + 1
    · rw [List.eq_nil_of_length_eq_zero (l := nums .u64 (K.drop (i + 1))) (by rw [hYl]; omega)] at hj
      simp at hj
    · rw [if_neg h]
      exact row_cells (W := w.drew) hh ht hK j v hj
  have hap := fun ty sc => run_append_room (P := Try.prog) w.drew 22 ty 25 i0 Try.underlying22 hi0 g i c cur hh AD (d - i) sc (nums .u64 (K.drop (i + 1))) (by rw [hYl, hzs, Nat.mul_one]) hsrc (nums_one _) (by omega) (by rw [hzs, hYl]; omega)
  rw [hzs, Nat.mul_one, show i + (d - i) = d by omega] at hap
  have hh1 := setRow_heap w.drew g _ (cur.toList.take i ++ nums .u64 (K.drop (i + 1)) ++ cur.toList.drop (i + (nums .u64 (K.drop (i + 1))).length)).toArray _ _ hh
  have hgr1 : w.grownBy (w.drew.setRow g (cur.toList.take i ++ nums .u64 (K.drop (i + 1)) ++ cur.toList.drop (i + (nums .u64 (K.drop (i + 1))).length)).toArray) (some g) := ⟨rfl, rfl, rfl, by rw [setRow_size]; exact Nat.le_refl _, fun k hk hkg => setRow_other _ _ _ _ (fun h => hkg (by rw [h]))⟩
  obtain ⟨R1, hR1⟩ : ∃ R1, cur.toList.take i ++ nums .u64 (K.drop (i + 1)) ++ cur.toList.drop (i + (nums .u64 (K.drop (i + 1))).length) = R1 := ⟨_, rfl⟩
  rw [hR1] at hap hh1 hgr1 l1 l2 l3 l4
  obtain ⟨W1, hW1⟩ : ∃ W1, w.drew.setRow g R1.toArray = W1 := ⟨_, rfl⟩
  rw [hW1] at hap hh1 hgr1
  have hcl : ∀ ty, (Builtin.clear_ #[22] ty #[.slice (some ⟨g, d, none⟩) 1 (c - d)]).run Try.prog W1 = .ok (.tuple #[]) (W1.setRow g (R1.take d ++ [Value.int .u64 0] ++ R1.drop (d + 1)).toArray) := fun ty => by
    have hst := run_storeCells_at Try.prog g d 25 [.int .u64 0] 0 R1.toArray W1 hh1 (by simp only [List.size_toArray, l1, List.length_singleton]; omega) (by simp [Value.oneCell'])
    have hz : (zeroValue 25).run Try.prog W1 = .ok (.int .u64 0) W1 := by kernel_rfl
    simp only [Nat.add_zero, List.length_singleton, List.toList_toArray] at hst
    simp [Builtin.clear_, run_underlying Try.underlying22, hz, Builtin.zeroCells, Value.cells, hst]
  have hh2 := setRow_heap W1 g _ (R1.take d ++ [Value.int .u64 0] ++ R1.drop (d + 1)).toArray _ _ hh1
  have hgr2 : W1.grownBy (W1.setRow g (R1.take d ++ [Value.int .u64 0] ++ R1.drop (d + 1)).toArray) (some g) := ⟨rfl, rfl, rfl, by rw [setRow_size]; exact Nat.le_refl _, fun k hk hkg => setRow_other _ _ _ _ (fun h => hkg (by rw [h]))⟩
  obtain ⟨W2, hW2⟩ : ∃ W2, W1.setRow g (R1.take d ++ [Value.int .u64 0] ++ R1.drop (d + 1)).toArray = W2 := ⟨_, rfl⟩
  rw [hW2] at hcl hh2 hgr2
  have own2 : W2.ownsRow base 25 1 (.slice (some ⟨g, 0, none⟩) d c) d (nums .u64 (K.take i ++ K.drop (i + 1))) := by
    refine ⟨by rw [nums_len, List.length_append, List.length_take, List.length_drop]; omega, .inr ⟨g, c, _, rfl, hge, hh2, by omega, hm, ?_, ?_⟩⟩
    · rw [List.size_toArray]; exact (Nat.mul_one c).symm ▸ l3
    · rw [Nat.mul_one, List.toList_toArray, nums_append]; exact l4
  have gr2 : w.grownBy W2 (some g) := hgr1.trans hgr2
  have hbel := pw_below_grown (Below.refl base w) _ hb gr2 (fun k hk => by injection hk with hk; omega)
  have HO := Lib.hid (And.intro own2 (And.intro gr2 hbel))
  have hc63 : c ≤ 9223372036854775807 := by unfold maxLen at hm; omega
  have t1 : ((i : Int) == (i : Int) + 1) = false := by rw [beq_eq_false_iff_ne]; omega
  have hin : i ≤ d + 1 := by omega
  have hic : i ≤ c := by omega
  have hw1 : IntKind.i64.wrap ((i : Int) + 1) = (i : Int) + 1 := by rw [IntKind.wrap_i64]; omega
  have hb1 : (0 : Int) ≤ (i : Int) + 1 := by omega
  have htn : ((i : Int) + 1).toNat = i + 1 := by omega
  have hb2 : ¬ (c = d) := by omega
  have hd2 : i + 1 ≤ d + 1 := by omega
  have HAD := Lib.hid hAD
  clear ho hh ht hsz hR hX hYl l1 l2 l3 l4 hh1 hgr1 hW1 hR1 hh2 hgr2 hW2 own2 gr2 hbel hm hge hb hK hsrc hAD hi0 hz0 hzs hzb
  go_enter Try.func63, Try.ntmps63
  by_cases hci : c = i + 1
  · have hAD := HAD.out
    rw [if_pos hci] at hAD
    subst hAD
    obtain rfl : d = i := by omega
    subst hci
    simp only [Nat.sub_self, Nat.add_sub_cancel_left] at hap hcl
    have hdd : (d : Int) ≤ (d : Int) + 1 := by omega
    go_wp2_with fail
    go_region_law (refine step_app_run rfl _ _ 22 22 rfl (.slice (some ⟨g, 0, none⟩) d (d + 1)) (.slice (some ⟨g, 0, none⟩) 0 0) (by simp [Act.eval, Act.put]) (by simp [Act.eval, Act.put]) (hap _ _) ?_)
    go_wp2_with (simp only [hcl])
    go_ret
    exact ⟨_, _, rfl, HO.out.1, HO.out.2.2, HO.out.2.1, .inl rfl⟩
  · have hAD := HAD.out
    rw [if_neg hci] at hAD
    subst hAD
    go_wp2_with fail
    go_region_law (refine step_app_run rfl _ _ 22 22 rfl (.slice (some ⟨g, 0, none⟩) i c) (.slice (some ⟨g, i + 1, none⟩) (d - i) (c - (i + 1))) (by simp [Act.eval, Act.put]) (by simp [Act.eval, Act.put]) (hap _ _) ?_)
    go_wp2_with (simp only [hcl])
    go_ret
    exact ⟨_, c, rfl, HO.out.1, HO.out.2.2, HO.out.2.1, .inl rfl⟩
theorem ins_from {w W w' : World} {e : Ending} {base n : Nat} {ob : Option Nat} {xs : List Int} (h : INS W w' e base ob n xs) (hb : Below w.heap.size w W) (hbase : base ≤ w.heap.size) : INS w w' e base ob n xs := by
  obtain ⟨A', c', e1, o, b, g, hh⟩ := h
  exact ⟨A', c', e1, o, (hb.mono hbase).trans b, (grown_of_below hb ob).trans g, hh.imp id (fun ⟨p, hp, hl⟩ => ⟨p, hp, Nat.le_trans hb.size hl⟩)⟩
theorem ins_same {w : World} {base n c : Nat} {A : Option Addr} {xs : List Int} (ho : w.ownsRow base 25 1 (.slice A n c) n (nums .u64 xs)) : INS w w (.returned (.slice A n c)) base (Value.slice A n c).ownBlock n xs :=
  ⟨A, c, rfl, ho, Below.refl _ _, World.grownBy.refl w _, .inl rfl⟩
theorem one_any (b : Bool) (x y z : Int) (w : World) (hz : (if b = true then x else y) = z) : Calls Try.prog 60 #[.bool b, .int .u64 x, .int .u64 y] w fun e w' => e = .returned (.int .u64 z) ∧ w = w' := by
  subst hz
  exact one_at b x y w
set_option maxRecDepth 100000 in
set_option maxHeartbeats 1600000 in
theorem ins_c (b : Bool) (A : Option Addr) (c q i ga gk gv base : Nat) (Ks : List Int) (key val y : Int) (w : World) (ho : w.ownsRow base 25 1 (.slice A q c) q (nums .u64 Ks)) (hK : Ks.length = q) (hga : w.heap[ga]? = some (.cells #[.int .i64 (i : Int)] 3)) (hgk : w.heap[gk]? = some (.cells #[.int .u64 key] 25)) (hgv : w.heap[gv]? = some (.cells #[.int .u64 val] 25)) (hy : (if b = true then key else val) = y) (hi : i ≤ q) (hb : base ≤ w.heap.size) (hs : (q + 1) * 8 ≤ 140737488355328) :
    Calls Try.prog 58 #[.slice A q c, .bool b, .pointer (some ⟨ga, 0, none⟩), .pointer (some ⟨gk, 0, none⟩), .pointer (some ⟨gv, 0, none⟩)] w fun e w' => INS w w' e base (Value.slice A q c).ownBlock (q + 1) (Ks.take i ++ y :: Ks.drop i) := by
  have RA := Lib.hid (And.intro hga (And.intro hgk hgv))
  have HO := Lib.hid (And.intro ho (And.intro hK (And.intro hi (And.intro hb hs))))
  have HY := Lib.hid hy
  clear hga hgk hgv ho hK hi hb hs hy
  go_enter Try.func58, Try.ntmps58
  go_wp2_with fail
  refine start_ (n := 9) (S := fun w' => w'.cell? ⟨ga, 0, none⟩ = some (.int .i64 (i : Int)) ∧ w'.cell? ⟨gk, 0, none⟩ = some (.int .u64 key) ∧ w'.cell? ⟨gv, 0, none⟩ = some (.int .u64 val)) (ds := [7]) #[false, false, false, false, false, false, false, false, false] (by kernel_rfl) rfl rfl ⟨cell_row RA.out.1 rfl, cell_row RA.out.2.1 rfl, cell_row RA.out.2.2 rfl⟩ (fun hHeld => ?_)
  refine pure_ (i := 0) (N := some 8) (v := ?_) (a' := ?_) #[true, false, false, false, false, false, false, false, false] rfl rfl (by kernel_rfl) (fun _ _ _ h => h) (Or.inl ⟨by rfl, ?_⟩) ?_ ?_
  rotate_left
  · intro w'
    go_simp
    with_reducible rfl
  rotate_left
  · simp only [Act.put, List.setIfInBounds_toArray, List.set_cons_zero, List.set_cons_succ, i64_w, i32_w]
    rfl
  refine pure_ (i := 2) (N := some 10) (v := ?_) (a' := ?_) #[true, false, true, false, false, false, false, false, false] rfl rfl (by kernel_rfl) (fun _ _ _ h => h) (Or.inl ⟨by rfl, ?_⟩) ?_ ?_
  rotate_left
  · intro w'
    go_simp
    with_reducible rfl
  rotate_left
  · simp only [Act.put, List.setIfInBounds_toArray, List.set_cons_zero, List.set_cons_succ, i64_w, i32_w]
    rfl
  refine take_ (i := 1) (N := some 9) (v := ?_) (a' := ?_) #[true, true, true, false, false, false, false, false, false] rfl rfl (by kernel_rfl) (fun _ _ _ h => h) (Or.inl ⟨by rfl, ?_⟩) hHeld ?_ ?_
  rotate_left
  · rintro w' ⟨s0, s1, s2⟩
    go_simp
    with_reducible rfl
  rotate_left
  · simp only [Act.put, List.setIfInBounds_toArray, List.set_cons_zero, List.set_cons_succ, i64_w, i32_w]
    rfl
  refine take_ (i := 3) (N := some 11) (v := ?_) (a' := ?_) #[true, true, true, true, false, false, false, false, false] rfl rfl (by kernel_rfl) (fun _ _ _ h => h) (Or.inl ⟨by rfl, ?_⟩) hHeld ?_ ?_
  rotate_left
  · rintro w' ⟨s0, s1, s2⟩
    go_simp
    with_reducible rfl
  rotate_left
  · simp only [Act.put, List.setIfInBounds_toArray, List.set_cons_zero, List.set_cons_succ, i64_w, i32_w]
    rfl
  refine take_ (i := 4) (N := some 12) (v := ?_) (a' := ?_) #[true, true, true, true, true, false, false, false, false] rfl rfl (by kernel_rfl) (fun _ _ _ h => h) (Or.inl ⟨by rfl, ?_⟩) hHeld ?_ ?_
  rotate_left
  · rintro w' ⟨s0, s1, s2⟩
    go_simp
    with_reducible rfl
  rotate_left
  · simp only [Act.put, List.setIfInBounds_toArray, List.set_cons_zero, List.set_cons_succ, i64_w, i32_w]
    rfl
  refine one_ (i := 5) (N := some 13) #[true, true, true, true, true, true, false, false, false] rfl rfl (by kernel_rfl) (by decide) (fun K hK => ?_)
  refine goes_ Try.func60 (by kernel_rfl) rfl #[.bool b, .int .u64 key, .int .u64 val] (by rfl) rfl rfl (by simp only [List.map_toArray, List.map_cons, List.map_nil]; rfl) ?_
  with_reducible refine (one_any b key val y _ HY.out).mono ?_
  rintro e w3 ⟨rfl, rfl⟩
  refine ⟨_, rfl, ?_⟩
  refine hK.out _ _ ⟨cell_row (w := w.drew) RA.out.1 rfl, cell_row (w := w.drew) RA.out.2.1 rfl, cell_row (w := w.drew) RA.out.2.2 rfl⟩ (fun hHeld => ?_)
  clear hK K
  refine norm_ (a' := ?_) ?_ ?_
  rotate_left
  · show Act.put _ (some 13) _ = _
    simp only [Act.put, List.setIfInBounds_toArray, List.set_cons_zero, List.set_cons_succ, i64_w, i32_w]
    rfl
  refine one_ (i := 6) (N := some 14) #[true, true, true, true, true, true, true, false, false] rfl rfl (by kernel_rfl) (by decide) (fun K hK => ?_)
  refine value_ (w1 := ?_) (v := ?_) (by rfl) rfl ?_ ?_
  rotate_left 2
  · go_simp
    constructor
    · rfl
    · rfl
  have b5 : Below w.heap.size w (w.alloc (.cells #[.int .u64 y] 25)).drew := below_drew ((Below.refl _ _).alloc (Nat.le_refl _) _)
  have f5 : (w.alloc (.cells #[.int .u64 y] 25)).drew.heap[w.heap.size]? = some (.cells #[.int .u64 y] 25) := heap_alloc_new w _
  obtain ⟨w5, hw5⟩ : ∃ x, (w.alloc (.cells #[.int .u64 y] 25)).drew = x := ⟨_, rfl⟩
  rw [hw5] at b5 f5
  have B5 := Lib.hid (And.intro b5 f5)
  clear b5 f5
  refine hK.out _ _ ⟨by rw [hw5]; exact cell_row (keep_row RA.out.1 B5.out.1) rfl, by rw [hw5]; exact cell_row (keep_row RA.out.2.1 B5.out.1) rfl, by rw [hw5]; exact cell_row (keep_row RA.out.2.2 B5.out.1) rfl⟩ (fun hHeld => ?_)
  clear hK K
  refine norm_ (a' := ?_) ?_ ?_
  rotate_left
  · show Act.put _ (some 14) _ = _
    simp only [Act.put, List.setIfInBounds_toArray, List.set_cons_zero, List.set_cons_succ, i64_w, i32_w]
    rfl
  refine last_ (i := 7) (N := some 15) #[true, true, true, true, true, true, true, true, false] rfl rfl (by kernel_rfl) (by decide) (fun K hK => ?_)
  rw [hw5]
  clear hw5
  refine goes_ Try.func59 (by kernel_rfl) rfl #[.slice A q c, .int .i64 (i : Int), .slice (some ⟨w.heap.size, 0, none⟩) 1 1] (by rfl) rfl rfl (by simp only [List.map_toArray, List.map_cons, List.map_nil]; rfl) ?_
  with_reducible refine (insert_any A c q i w.heap.size base Ks y _ (pw_own_below HO.out.1 B5.out.1) HO.out.2.1 B5.out.2 (fun a ha => by subst ha; have := own_lt HO.out.1 a.block rfl; omega) HO.out.2.2.1 (Nat.le_trans HO.out.2.2.2.1 B5.out.1.size) HO.out.2.2.2.2).mono ?_
  rintro e w4 h4
  obtain ⟨A4, c4, rfl, h4⟩ := h4
  refine ⟨_, rfl, ?_⟩
  have H4 := Lib.hid h4
  clear h4
  refine hK.out _ _ ?_
  clear hK K
  refine norm_ (a' := ?_) ?_ ?_
  rotate_left
  · show Act.put _ (some 15) _ = _
    simp only [Act.put, List.setIfInBounds_toArray, List.set_cons_zero, List.set_cons_succ, i64_w, i32_w]
    rfl
  refine pure_ (i := 8) (N := some 7) (v := ?_) (a' := ?_) #[true, true, true, true, true, true, true, true, true] rfl rfl (by kernel_rfl) (fun _ _ _ h => h) (Or.inl ⟨by rfl, ?_⟩) ?_ ?_
  rotate_left
  · intro w'
    go_simp
    with_reducible rfl
  rotate_left
  · simp only [Act.put, List.setIfInBounds_toArray, List.set_cons_zero, List.set_cons_succ, i64_w, i32_w]
    rfl
  refine done_ (by kernel_rfl) ?_
  go_wp2_with fail
  go_ret
  exact ins_from ⟨A4, c4, rfl, H4.out⟩ B5.out.1 HO.out.2.2.2.1
set_option maxRecDepth 100000 in
set_option maxHeartbeats 1600000 in
theorem set_out (b : Bool) (A : Option Addr) (c q ga gk gv : Nat) (i : Int) (w : World) (hga : w.heap[ga]? = some (.cells #[.int .i64 i] 3)) (hi : i < 0 ∨ (q : Int) ≤ i) :
    Calls Try.prog 61 #[.slice A q c, .bool b, .pointer (some ⟨ga, 0, none⟩), .pointer (some ⟨gk, 0, none⟩), .pointer (some ⟨gv, 0, none⟩)] w fun e w' => e = .returned (.slice A q c) ∧ w = w' := by
  have x1 : w.cell? ⟨ga, 0, none⟩ = some (.int .i64 i) := cell_row hga rfl
  clear hga
  by_cases h : i < 0
  · have d1 : decide ((0 : Int) ≤ i) = false := decide_eq_false (by omega)
    have d1' : decide (i ≥ (0 : Int)) = false := decide_eq_false (by omega)
    clear h hi
    go_enter Try.func61, Try.ntmps61
    go_wp2_with fail
    go_ret
    exact ⟨rfl, rfl⟩
  · have d1 : decide ((0 : Int) ≤ i) = true := decide_eq_true (by omega)
    have d2 : decide (i < (q : Int)) = false := decide_eq_false (by omega)
    clear h hi
    go_enter Try.func61, Try.ntmps61
    go_wp2_with fail
    go_ret
    exact ⟨rfl, rfl⟩
set_option maxRecDepth 100000 in
set_option maxHeartbeats 1600000 in
theorem set_in (b : Bool) (A : Option Addr) (c q i ga gk gv base : Nat) (Ks : List Int) (key val y : Int) (w : World) (ho : w.ownsRow base 25 1 (.slice A q c) q (nums .u64 Ks)) (hK : Ks.length = q) (hga : w.heap[ga]? = some (.cells #[.int .i64 (i : Int)] 3)) (hgk : w.heap[gk]? = some (.cells #[.int .u64 key] 25)) (hgv : w.heap[gv]? = some (.cells #[.int .u64 val] 25)) (hy : (if b = true then key else val) = y) (hi : i < q) (hb : base ≤ w.heap.size) :
    Calls Try.prog 61 #[.slice A q c, .bool b, .pointer (some ⟨ga, 0, none⟩), .pointer (some ⟨gk, 0, none⟩), .pointer (some ⟨gv, 0, none⟩)] w fun e w' => INS w w' e base (Value.slice A q c).ownBlock q (Ks.take i ++ y :: Ks.drop (i + 1)) := by
  rcases ho.2 with ⟨hv, h0⟩ | ⟨g, cap, cur, hv, hge, hh, hn, hm, hsz, ht⟩
  · omega
  injection hv with e1 e2 e3
  subst e1; subst e3
  clear e2
  rw [Nat.mul_one] at hsz ht
  have hic : i < cur.size := by omega
  have hcell : ∃ x, w.drew.cell? ⟨g, i, none⟩ = some x := ⟨cur[i], by rw [cell_of_row w.drew g i cur _ _ hh, Array.getElem?_eq_getElem hic]⟩
  obtain ⟨x0, hx0⟩ := hcell
  have hfz : w.drew.frozen? ⟨g, i, none⟩ = false := blk_frozen (w := w.drew) hh i
  have hh1 := blk_put (w := w.drew) hh i (.int .u64 y) (cs' := cur.setIfInBounds i (.int .u64 y)) rfl
  have hgr1 : w.grownBy (w.drew.setCell ⟨g, i, none⟩ (.int .u64 y)) (some g) := ⟨rfl, rfl, rfl, by simp [World.setCell], fun k hk hkg => Below.heap_setCell w.drew ⟨g, i, none⟩ _ k (fun h => hkg (by rw [h]))⟩
  have own2 : (w.drew.setCell ⟨g, i, none⟩ (.int .u64 y)).ownsRow base 25 1 (.slice (some ⟨g, 0, none⟩) q c) q (nums .u64 (Ks.take i ++ y :: Ks.drop (i + 1))) := by
    refine ⟨by rw [nums_len, List.length_append, List.length_cons, List.length_take, List.length_drop]; omega, .inr ⟨g, c, _, rfl, hge, hh1, hn, hm, by rw [Array.size_setIfInBounds]; omega, ?_⟩⟩
    have e : Ks.take i ++ y :: Ks.drop (i + 1) = Ks.set i y := by rw [List.set_eq_take_append_cons_drop, if_pos (by omega)]
    rw [e, Nat.mul_one, Array.toList_setIfInBounds, List.take_set, ht]
    unfold nums
    rw [List.map_set]
  have hbel := pw_below_grown (Below.refl base w) _ hb hgr1 (fun k hk => by injection hk with hk; omega)
  have HO := Lib.hid (And.intro own2 (And.intro hbel hgr1))
  have RA := Lib.hid (And.intro hga (And.intro hgk hgv))
  have HY := Lib.hid hy
  have X0 := Lib.hid hx0
  have XF := Lib.hid hfz
  have d1 : decide ((0 : Int) ≤ (i : Int)) = true := decide_eq_true (by omega)
  have d2 : decide ((i : Int) < (q : Int)) = true := decide_eq_true (by omega)
  have i0 : (0 : Int) ≤ (i : Int) := by omega
  have i1 : (i : Int) < (q : Int) := by omega
  have x1 : w.cell? ⟨ga, 0, none⟩ = some (.int .i64 (i : Int)) := cell_row hga rfl
  clear hga hgk hgv ho hK hb hy hh ht hsz hh1 hgr1 own2 hbel hx0 hfz hm hn hge
  go_enter Try.func61, Try.ntmps61
  go_wp2_with fail
  clear x1
  refine start_ (n := 8) (S := fun w' => w'.cell? ⟨ga, 0, none⟩ = some (.int .i64 (i : Int)) ∧ w'.cell? ⟨gk, 0, none⟩ = some (.int .u64 key) ∧ w'.cell? ⟨gv, 0, none⟩ = some (.int .u64 val)) (ds := [7]) #[false, false, false, false, false, false, false, false] (by kernel_rfl) rfl rfl ⟨cell_row RA.out.1 rfl, cell_row RA.out.2.1 rfl, cell_row RA.out.2.2 rfl⟩ (fun hHeld => ?_)
  refine pure_ (i := 0) (N := some 16) (v := ?_) (a' := ?_) #[true, false, false, false, false, false, false, false] rfl rfl (by kernel_rfl) (fun _ _ _ h => h) (Or.inl ⟨by rfl, ?_⟩) ?_ ?_
  rotate_left
  · intro w'
    go_simp
    with_reducible rfl
  rotate_left
  · simp only [Act.put, List.setIfInBounds_toArray, List.set_cons_zero, List.set_cons_succ, i64_w, i32_w]
    rfl
  refine pure_ (i := 2) (N := some 18) (v := ?_) (a' := ?_) #[true, false, true, false, false, false, false, false] rfl rfl (by kernel_rfl) (fun _ _ _ h => h) (Or.inl ⟨by rfl, ?_⟩) ?_ ?_
  rotate_left
  · intro w'
    go_simp
    with_reducible rfl
  rotate_left
  · simp only [Act.put, List.setIfInBounds_toArray, List.set_cons_zero, List.set_cons_succ, i64_w, i32_w]
    rfl
  refine take_ (i := 1) (N := some 17) (v := ?_) (a' := ?_) #[true, true, true, false, false, false, false, false] rfl rfl (by kernel_rfl) (fun _ _ _ h => h) (Or.inl ⟨by rfl, ?_⟩) hHeld ?_ ?_
  rotate_left
  · rintro w' ⟨s0, s1, s2⟩
    go_simp
    with_reducible rfl
  rotate_left
  · simp only [Act.put, List.setIfInBounds_toArray, List.set_cons_zero, List.set_cons_succ, i64_w, i32_w]
    rfl
  refine take_ (i := 3) (N := some 19) (v := ?_) (a' := ?_) #[true, true, true, true, false, false, false, false] rfl rfl (by kernel_rfl) (fun _ _ _ h => h) (Or.inl ⟨by rfl, ?_⟩) hHeld ?_ ?_
  rotate_left
  · rintro w' ⟨s0, s1, s2⟩
    go_simp
    with_reducible rfl
  rotate_left
  · simp only [Act.put, List.setIfInBounds_toArray, List.set_cons_zero, List.set_cons_succ, i64_w, i32_w]
    rfl
  refine take_ (i := 4) (N := some 20) (v := ?_) (a' := ?_) #[true, true, true, true, true, false, false, false] rfl rfl (by kernel_rfl) (fun _ _ _ h => h) (Or.inl ⟨by rfl, ?_⟩) hHeld ?_ ?_
  rotate_left
  · rintro w' ⟨s0, s1, s2⟩
    go_simp
    with_reducible rfl
  rotate_left
  · simp only [Act.put, List.setIfInBounds_toArray, List.set_cons_zero, List.set_cons_succ, i64_w, i32_w]
    rfl
  refine one_ (i := 5) (N := some 21) #[true, true, true, true, true, true, false, false] rfl rfl (by kernel_rfl) (by decide) (fun K hK => ?_)
  refine goes_ Try.func60 (by kernel_rfl) rfl #[.bool b, .int .u64 key, .int .u64 val] (by rfl) rfl rfl (by simp only [List.map_toArray, List.map_cons, List.map_nil]; rfl) ?_
  with_reducible refine (one_any b key val y _ HY.out).mono ?_
  rintro e w3 ⟨rfl, rfl⟩
  refine ⟨_, rfl, ?_⟩
  refine hK.out _ _ ⟨cell_row (w := w.drew) RA.out.1 rfl, cell_row (w := w.drew) RA.out.2.1 rfl, cell_row (w := w.drew) RA.out.2.2 rfl⟩ (fun hHeld => ?_)
  clear hK K
  refine norm_ (a' := ?_) ?_ ?_
  rotate_left
  · show Act.put _ (some 21) _ = _
    simp only [Act.put, List.setIfInBounds_toArray, List.set_cons_zero, List.set_cons_succ, i64_w, i32_w]
    rfl
  refine pure_ (i := 6) (N := some 22) (v := ?_) (a' := ?_) #[true, true, true, true, true, true, true, false] rfl rfl (by kernel_rfl) (fun _ _ _ h => h) (Or.inl ⟨by rfl, ?_⟩) ?_ ?_
  rotate_left
  · intro w'
    go_simp
    with_reducible rfl
  rotate_left
  · simp only [Act.put, List.setIfInBounds_toArray, List.set_cons_zero, List.set_cons_succ, i64_w, i32_w]
    rfl
  refine last_ (i := 7) (N := none) #[true, true, true, true, true, true, true, true] rfl rfl (by kernel_rfl) (by decide) (fun K hK => ?_)
  have x0 := X0.out
  have xf := XF.out
  refine skip_ (w1 := ?_) (by rfl) rfl ?_ ?_
  rotate_left
  · go_simp
    rfl
  refine hK.out _ _ ?_
  clear hK K
  refine done_ (by kernel_rfl) ?_
  go_wp2_with fail
  go_ret
  exact ⟨_, c, rfl, HO.out.1, HO.out.2.1, HO.out.2.2, .inl rfl⟩
set_option maxRecDepth 100000 in
set_option maxHeartbeats 1600000 in
theorem rem_out (b : Bool) (A : Option Addr) (c q ga : Nat) (i : Int) (w : World) (hga : w.heap[ga]? = some (.cells #[.int .i64 i] 3)) (hi : i < 0 ∨ (q : Int) ≤ i) :
    Calls Try.prog 62 #[.slice A q c, .bool b, .pointer (some ⟨ga, 0, none⟩)] w fun e w' => e = .returned (.slice A q c) ∧ w = w' := by
  have x1 : w.cell? ⟨ga, 0, none⟩ = some (.int .i64 i) := cell_row hga rfl
  clear hga
  by_cases h : i < 0
  · have d1 : decide (i < (0 : Int)) = true := decide_eq_true (by omega)
    clear h hi
    go_enter Try.func62, Try.ntmps62
    go_wp2_with fail
    go_ret
    exact ⟨rfl, rfl⟩
  · have d1 : decide (i < (0 : Int)) = false := decide_eq_false (by omega)
    have d2 : decide ((q : Int) ≤ i) = true := decide_eq_true (by omega)
    clear h hi
    go_enter Try.func62, Try.ntmps62
    go_wp2_with fail
    go_ret
    exact ⟨rfl, rfl⟩
set_option maxRecDepth 100000 in
set_option maxHeartbeats 1600000 in
theorem rem_in (b : Bool) (A : Option Addr) (c d i ga base : Nat) (Ks : List Int) (w : World) (ho : w.ownsRow base 25 1 (.slice A (d + 1) c) (d + 1) (nums .u64 Ks)) (hK : Ks.length = d + 1) (hga : w.heap[ga]? = some (.cells #[.int .i64 (i : Int)] 3)) (hi : i ≤ d) (hs : d < 17592186044417) (hb : base ≤ w.heap.size) :
    Calls Try.prog 62 #[.slice A (d + 1) c, .bool b, .pointer (some ⟨ga, 0, none⟩)] w fun e w' => INS w w' e base (Value.slice A (d + 1) c).ownBlock d (Ks.take i ++ Ks.drop (i + 1)) := by
  have x1 : w.cell? ⟨ga, 0, none⟩ = some (.int .i64 (i : Int)) := cell_row hga rfl
  have HO := Lib.hid (And.intro ho (And.intro hK (And.intro hi hb)))
  have i1 : (i : Int) < (d : Int) + 1 := by omega
  have i2 : (i : Int) < 17592186044417 := by omega
  have i0 : (0 : Int) ≤ (i : Int) := by omega
  have d1 : decide ((i : Int) < (0 : Int)) = false := decide_eq_false (by omega)
  have d2 : decide ((d : Int) + 1 ≤ (i : Int)) = false := decide_eq_false (by omega)
  clear ho hK hb hga hs hi
  go_enter Try.func62, Try.ntmps62
  go_wp2_with fail
  refine (delete_at A c d i base Ks _ HO.out.1 HO.out.2.1 HO.out.2.2.1 HO.out.2.2.2).mono ?_; rintro e w2 ⟨A2, c2, rfl, h2⟩
  have H2 := Lib.hid h2
  clear h2 x1
  go_wp2_with fail
  go_ret
  exact ⟨A2, c2, rfl, H2.out⟩
end Go.Proofs.Ytdekplalhfpooaa.Knt
